/- A symbolic walk, fourth part: what the world holds; operations that look at memory. No condition. -/
import Derived.Test.YtlgpgmafmgmfdaaSxC
import Derived.Test.YtlgpgmafmgmfdaaCvQ
set_option linter.unusedSimpArgs false
set_option linter.unusedVariables false
namespace Sx
open Go Go.RowKit Cv

theorem Rel.focus {k : Ko} {L : List HP} {E : Ev} {s : St} {w : World} (R : Rel k L E s w) {n : Nat} {o : AObj} (h : s.get n = some o) :
    Hp k w (rHP E (n, o) :: ((rdel n s.rows).map (rHP E) ++ fz E.F :: L)) := by
  refine R.hp.perm ?_
  have := ((rget_perm h).1.map (rHP E)).append_right (fz E.F :: L)
  simpa using this

theorem Rel.unfocus {k : Ko} {L : List HP} {E : Ev} {s : St} {w w' : World} (R : Rel k L E s w) {n : Nat} {o : AObj} (h : s.get n = some o) {o' : AObj}
    (H : Hp k w' (rHP E (n, o') :: ((rdel n s.rows).map (rHP E) ++ fz E.F :: L))) : Rel k L E (s.set n o') w' := by
  refine ⟨R.nx, H.perm ?_⟩
  have := (((rget_perm h).2 o').map (rHP E)).append_right (fz E.F :: L)
  simpa [St.set] using this.symm

theorem Rel.frozen {k : Ko} {L : List HP} {E : Ev} {s : St} {w : World} (R : Rel k L E s w) : ∀ b o, E.F b = some o → w.heap[b]? = some o := by
  have H : Hp k w (fz E.F :: (s.rows.map (rHP E) ++ L)) := R.hp.perm List.perm_middle
  obtain ⟨h, rfl, hs⟩ := H.sat
  exact hs

theorem Rel.row {k : Ko} {L : List HP} {E : Ev} {s : St} {w : World} (R : Rel k L E s w) {n : Nat} {o : AObj} (h : s.get n = some o) (hg : o ≠ .gone) :
    ∃ hd x, E.tab[n]? = some hd ∧ rowHP E.F o E.tab hd x ∧ Sub x w := by
  obtain ⟨x, hx, hs⟩ := (R.focus h).sat
  rcases hx with ⟨e, _⟩ | ⟨hd, h1, h2⟩
  · exact absurd e hg
  · exact ⟨hd, x, h1, h2, hs⟩

theorem Rel.cells {k : Ko} {L : List HP} {E : Ev} {s : St} {w : World} (R : Rel k L E s w) {n : Nat} {vs : List V} {t : TypeId} (h : s.get n = some (.cells vs t)) :
    ∃ b l sub, E.tab[n]? = some (.pointer (some ⟨b, 0, none⟩), sub) ∧ VRL E vs l ∧ w.heap[b]? = some (.cells l.toArray t) := by
  obtain ⟨⟨hv, sub⟩, x, h1, h2, h3⟩ := R.row h (by simp)
  simp only [rowHP] at h2
  obtain ⟨b, l, rfl, h4, rfl⟩ := h2
  exact ⟨b, l, sub, h1, h4, h3 b _ (by simp [one])⟩

/-- A slice's elements, however they are known. -/
def slData (s : St) : V → Option (Nat × List (List D))
  | .d (.ro sz els) => some (sz, els)
  | .own n => match s.get n with
    | some (.own _ sz els) => some (sz, els)
    | some (.fro sz els) => some (sz, els)
    | _ => none
  | _ => none

theorem slR_of_DR {k : Ko} {L : List HP} {E : Ev} {s : St} {w : World} (R : Rel k L E s w) {sz : Nat} {els : List (List D)} {y : Value} (h : DR E.F (.ro sz els) y) :
    ∃ a c xs, y = .slice a els.length c ∧ els.length ≤ c ∧ DRL E.F els.flatten xs ∧ (∀ el ∈ els, el.length = sz) ∧ Sat w (slR sz a els.length c xs) := by
  simp only [DR] at h
  obtain ⟨a, c, rfl, h1, h2, h3⟩ := h
  rcases h3 with rfl | ⟨b, o, l, T, fr, rfl, h4, h5⟩
  · exact ⟨a, c, [], rfl, h1, by simp [DRL], h2, pe, .inl ⟨rfl, rfl, rfl⟩, Sub.pe w⟩
  · obtain ⟨xs, r, e, hx⟩ := DRS_iff.1 h5
    have hl : xs.length = els.length * sz := by rw [hx.length, flat_len h2]
    refine ⟨_, c, xs, rfl, h1, hx, h2, one b (.cells l.toArray T fr), .inr ⟨b, o, l, T, fr, rfl, rfl, ?_, hl, h1⟩, ?_⟩
    · rw [e, List.take_append_of_le_length (by omega), List.take_of_length_le (by omega)]
    · intro b' o' e'
      simp only [one] at e'
      split at e'
      · rename_i hb; subst hb; cases e'; exact R.frozen _ _ h4
      · cases e'

theorem slData_ok {k : Ko} {L : List HP} {E : Ev} {s : St} {w : World} (R : Rel k L E s w) {v : V} {y : Value} (hv : VR E v y) {sz : Nat} {els : List (List D)} (h : slData s v = some (sz, els)) :
    ∃ a c xs, y = .slice a els.length c ∧ els.length ≤ c ∧ DRL E.F els.flatten xs ∧ (∀ el ∈ els, el.length = sz) ∧ Sat w (slR sz a els.length c xs) := by
  unfold slData at h
  split at h
  · simp only [Option.some.injEq, Prod.mk.injEq] at h
    obtain ⟨rfl, rfl⟩ := h
    simp only [VR] at hv
    exact slR_of_DR R hv
  · rename_i n
    simp only [VR] at hv
    obtain ⟨sub, h1, h2⟩ := hv
    split at h <;> first | (cases h; done) | skip
    · rename_i t sz' els' hg
      simp only [Option.some.injEq, Prod.mk.injEq] at h
      obtain ⟨rfl, rfl⟩ := h
      obtain ⟨hd, x, q1, q2, q3⟩ := R.row hg (by simp)
      rw [h1] at q1; cases q1
      simp only [rowHP] at q2
      obtain ⟨a, c, xs, rfl, q4, q5, q6⟩ := q2
      exact ⟨a, c, xs, rfl, (slO_len q6).2, q4, q5, x, slR_of_slO q6, q3⟩
    · rename_i sz' els' hg
      simp only [Option.some.injEq, Prod.mk.injEq] at h
      obtain ⟨rfl, rfl⟩ := h
      obtain ⟨hd, x, q1, q2, q3⟩ := R.row hg (by simp)
      rw [h1] at q1; cases q1
      simp only [rowHP] at q2
      exact slR_of_DR R q2.2
  · cases h

/-! ### Loads -/

/-- A part of an element: so many cells. -/
def elPart (els : List (List D)) (i f n : Nat) : Option (List D) :=
  match els[i]? with
  | some el => bif Nat.ble (f + n) el.length then some ((el.drop f).take n) else none
  | none => none

def shC : Value → (D → Prop) → Prop
  | .int k _, K => ∃ n : Int, K (.v (.int k n))
  | .bool _, K => ∃ b : Bool, K (.v (.bool b))
  | .string _, K => ∃ s : ByteArray, K (.v (.string s))
  | .slice _ _ _, K => ∃ (sz : Nat) (els : List (List D)), K (.ro sz els)
  | _, K => ∃ d : D, K d

def shL : List Value → (List D → Prop) → Prop
  | [], K => K []
  | z :: zs, K => shC z fun d => shL zs fun ds => K (d :: ds)

/-- The types of a value's cells. -/
def cellTys (P : Program) : Nat → TypeId → List TypeId
  | 0, t => [t]
  | f + 1, t => match P.underlying t with
    | some (.struct fs) => (fs.toList.map fun fd => cellTys P f fd.type).flatten
    | some (.array n e) => (List.replicate n (cellTys P f e)).flatten
    | _ => [t]

def shTL (P : Program) : List TypeId → List Value → (List D → Prop) → Prop
  | t :: ts, z :: zs, K => match slElem P t with
    | some sz => ∃ els : List (List D), shTL P ts zs fun ds => K (.ro sz els :: ds)
    | none => shC z fun d => shTL P ts zs fun ds => K (d :: ds)
  | _, zs, K => shL zs K

def shT (P : Program) (t : TypeId) (K : List D → Prop) : Prop :=
  match zeroS P t with
  | some z => shTL P (cellTys P 6 t) z.cells.toList K
  | none => False

theorem shC_out {z : Value} {K : D → Prop} (h : shC z K) : ∃ d, K d := by
  cases z <;> simp only [shC] at h <;> first | (obtain ⟨n, h⟩ := h; exact ⟨_, h⟩) | (obtain ⟨a, n, h⟩ := h; exact ⟨_, h⟩)

theorem shL_out : ∀ {zs : List Value} {K : List D → Prop}, shL zs K → ∃ ds, K ds
  | [], _, h => ⟨_, h⟩
  | _ :: _, _, h => let ⟨_, h1⟩ := shC_out h; let ⟨_, h2⟩ := shL_out h1; ⟨_, h2⟩

theorem shTL_out {P : Program} : ∀ {ts : List TypeId} {zs : List Value} {K : List D → Prop}, shTL P ts zs K → ∃ ds, K ds
  | t :: ts, z :: zs, K, h => by
    unfold shTL at h
    split at h
    · obtain ⟨els, h⟩ := h
      obtain ⟨ds, h⟩ := shTL_out h
      exact ⟨_, h⟩
    · obtain ⟨d, h⟩ := shC_out h
      obtain ⟨ds, h⟩ := shTL_out h
      exact ⟨_, h⟩
  | [], zs, K, h => by unfold shTL at h; exact shL_out h
  | t :: ts, [], K, h => by unfold shTL at h; exact shL_out h

theorem shT_out {P : Program} {t : TypeId} {K : List D → Prop} (h : shT P t K) : ∃ ds, K ds := by
  unfold shT at h
  split at h
  · exact shTL_out h
  · exact h.elim

def mkD (P : Program) (t : TypeId) (ds : List D) : Option V :=
  match aggS P t with
  | some n => bif Nat.beq ds.length n then some (.agg (ds.map .d)) else none
  | none => bif scal P t then (match ds with
    | [d] => some (.d d)
    | _ => none) else none

theorem run_load_sl {P : Program} {E : Ev} {w : World} {t sz i f : Nat} {els : List (List D)} {b oo : Nat} {c : Nat} {xs : List Value} {ds : List D} {v : V} (hx : DRL E.F els.flatten xs) (hu : ∀ el ∈ els, el.length = sz)
    (hs : Sat w (slR sz (some ⟨b, oo, none⟩) els.length c xs)) (hp : elPart els i f ds.length = some ds) (hm : mkD P t ds = some v) : ∃ y, VR E v y ∧ Holds P t ⟨b, oo + i * sz + f, none⟩ w y := by
  unfold elPart at hp
  split at hp <;> first | (cases hp; done) | skip
  rename_i el hel
  obtain ⟨hb, hp⟩ := cond_some hp
  have hb := Nat.le_of_ble_eq_true hb
  have hmem := List.mem_of_getElem? hel
  have hi : i < els.length := (List.getElem?_eq_some_iff.1 hel).1
  rw [hu el hmem] at hb
  obtain ⟨b', o', l, T, fr, e1, e2, e3⟩ := slR_at hs (by omega)
  cases e1
  have hpart := (hx.drop (i * sz + f)).take ds.length
  have hfp := flat_part hu hel hb
  rw [hfp, Option.some.inj hp] at hpart
  have hlen : xs.length = els.length * sz := by rw [hx.length, flat_len hu]
  have hin : i * sz + sz ≤ els.length * sz := by
    have := Nat.mul_le_mul_right sz (show i + 1 ≤ els.length by omega)
    rwa [Nat.succ_mul] at this
  have hmemory : (l.drop (oo + i * sz + f)).take ds.length = (xs.drop (i * sz + f)).take ds.length := by
    rw [← e3, List.drop_take, List.take_take, List.drop_drop, Nat.add_assoc oo]
    congr 1
    rw [Nat.min_eq_left]
    omega
  unfold mkD at hm
  split at hm
  · rename_i n hn
    obtain ⟨hq, hm⟩ := cond_some hm
    have := Nat.eq_of_beq_eq_true hq
    cases hm
    refine ⟨.agg ((xs.drop (i * sz + f)).take ds.length).toArray, by simp only [VR]; exact ⟨_, rfl, hpart.vrl⟩, ?_⟩
    refine holds_agg hn e2 (by rw [← this]; exact hmemory) ?_
    rw [hpart.length, this]
  · obtain ⟨hq, hm⟩ := cond_some hm
    split at hm <;> first | (cases hm; done) | skip
    rename_i d
    cases hm
    simp only [List.length_cons, List.length_nil, DRL] at hpart hmemory
    obtain ⟨y, ys, e4, h4, h5⟩ := hpart
    subst h5
    refine ⟨y, by simpa only [VR] using h4, holds_cell hq e2 ?_⟩
    have : ((l.drop (oo + i * sz + f)).take 1)[0]? = some y := by rw [hmemory, e4]; rfl
    rw [List.getElem?_take, if_pos (by omega), List.getElem?_drop] at this
    simpa using this

/-- A part of a row of cells. -/
def partL (P : Program) (t : TypeId) (vs : List V) (off : Nat) : Option V :=
  match aggS P t with
  | some sz => bif Nat.ble (off + sz) vs.length then some (.agg ((vs.drop off).take sz)) else none
  | none => bif scal P t then vs[off]? else none

theorem partL_sound {P : Program} {E : Ev} {w : World} {t b off : Nat} {vs : List V} {l : List Value} {T : TypeId} {fr : Nat × Nat} {v : V} (hv : VRL E vs l) (hb : w.heap[b]? = some (.cells l.toArray T fr)) (h : partL P t vs off = some v) :
    ∃ y, VR E v y ∧ Holds P t ⟨b, off, none⟩ w y := by
  unfold partL at h
  split at h
  · rename_i n hn
    obtain ⟨hq, h⟩ := cond_some h
    have hq := Nat.le_of_ble_eq_true hq
    cases h
    have hp := (hv.drop off).take n
    refine ⟨.agg ((l.drop off).take n).toArray, by simp only [VR]; exact ⟨_, rfl, hp⟩, holds_agg hn hb rfl ?_⟩
    rw [hp.length, List.length_take, List.length_drop]; omega
  · obtain ⟨hq, h⟩ := cond_some h
    obtain ⟨y, h1, h2⟩ := hv.get h
    exact ⟨y, h2, holds_cell hq hb h1⟩

def bytesE (s : ByteArray) : List (List D) := s.data.toList.map fun b => [.v (.int .u8 b.toNat)]

/-! ### Maps: keys are integers or strings -/
def vkeq : Value → Value → Bool
  | .int k a, .int k' b => keq k k' && decide (a = b)
  | .string a, .string b => decide (a = b)
  | _, _ => false

def mget (x : Value) : List (Value × List D) → Option (List D)
  | [] => none
  | (y, ds) :: l => bif vkeq x y then some ds else mget x l

def LK (es : List (Value × List D)) (x : Value) (z ds : List D) (b : Bool) : Prop := (mget x es = some ds ∧ b = true) ∨ (mget x es = none ∧ ds = z ∧ b = false)

def isIntK : Value → Bool
  | .int _ _ => true
  | _ => false
def isStrK : Value → Bool
  | .string _ => true
  | _ => false

/-- A key that is looked at as it is, in a map whose keys are all so. -/
def keyS (P : Program) (t : TypeId) (x : Value) : Bool :=
  match P.underlying t with
  | some (.int _) => isIntK x
  | some .string => isStrK x
  | _ => false

def zds (P : Program) (t : TypeId) : Option (List D) :=
  match zeroS P t with
  | some z => some (z.cells.toList.map .v)
  | none => none

/-- A key of the same kind. -/
def like : Value → Value → Bool
  | .int k _, .int k' _ => keq k k'
  | .string _, .string _ => true
  | _, _ => false

def AllLike (x : Value) (es : List (Value × List D)) : Prop := ∀ p ∈ es, like x p.1 = true

def mput (x : Value) (ds : List D) : List (Value × List D) → List (Value × List D)
  | [] => [(x, ds)]
  | (y, e) :: l => bif vkeq x y then (y, ds) :: l else (y, e) :: mput x ds l

def mdel (x : Value) : List (Value × List D) → List (Value × List D)
  | [] => []
  | (y, e) :: l => bif vkeq x y then l else (y, e) :: mdel x l

def mkM (P : Program) (t : TypeId) (ds : List D) : Option V :=
  match aggS P t with
  | some n => bif Nat.beq ds.length n && !(Nat.beq n 1) then some (.agg (ds.map .d)) else none
  | none => bif scal P t then (match ds with
    | [d] => some (.d d)
    | _ => none) else none

def mapT (P : Program) (t : TypeId) : Option (TypeId × TypeId) :=
  match P.underlying t with
  | some (.map k e) => some (k, e)
  | _ => none

theorem keq_eq {a b : IntKind} (h : keq a b = true) : a = b := by
  cases a <;> cases b <;> first | rfl | cases h

theorem vkeq_eq {x y : Value} (h : vkeq x y = true) : x = y := by
  unfold vkeq at h
  split at h
  · simp only [Bool.and_eq_true, decide_eq_true_eq] at h
    rw [keq_eq h.1, h.2]
  · rw [of_decide_eq_true h]
  · cases h

/-- A key that a map of the type asks for as it is. -/
def KeyT (kd : TypeDesc) (x : Value) : Prop := (∃ ik k n, kd = .int ik ∧ x = .int k n) ∨ (∃ s, kd = .string ∧ x = .string s)

theorem keyS_some {P : Program} {t : TypeId} {x : Value} (h : keyS P t x = true) : ∃ kd, P.underlying t = some kd ∧ KeyT kd x := by
  unfold keyS at h
  split at h
  · rename_i ik hu
    refine ⟨_, hu, .inl ?_⟩
    cases x <;> first | (cases h; done) | exact ⟨_, _, _, rfl, rfl⟩
  · rename_i hu
    refine ⟨_, hu, .inr ?_⟩
    cases x <;> first | (cases h; done) | exact ⟨_, rfl, rfl⟩
  · cases h

theorem beq_dec (s s' : ByteArray) : (s == s') = decide (s = s') := by
  by_cases h : s = s'
  · subst h
    rw [decide_eq_true rfl]
    show (s.data == s.data) = true
    simp
  · rw [decide_eq_false h]
    cases hb : s == s'
    · rfl
    · have : (s.data == s'.data) = true := hb
      exact absurd (ByteArray.ext (eq_of_beq this)) h

theorem sameNow_like {kd : TypeDesc} {x y : Value} (hk : KeyT kd x) (hl : like x y = true) : Instr.sameNow kd x y = some (vkeq x y) := by
  rcases hk with ⟨ik, k, n, rfl, rfl⟩ | ⟨s, rfl, rfl⟩
  · cases y <;> simp only [like, Bool.false_eq_true] at hl
    rename_i k' m
    have := keq_eq hl
    subst this
    simp only [Instr.sameNow, if_true, vkeq, hl, Bool.true_and]
    rfl
  · cases y <;> simp only [like, Bool.false_eq_true] at hl
    rename_i s'
    simp only [Instr.sameNow, vkeq]
    congr 1
    exact beq_dec s s'

theorem find_ok {F : PH} {kd : TypeDesc} {x : Value} (hk : KeyT kd x) : ∀ {es : List (Value × List D)} {ents : List MapEntry} (i : Nat), MR F es ents → AllLike x es →
    (Instr.findNow kd x ents i = some none ∧ mget x es = none ∧ (∀ ds, mput x ds es = es ++ [(x, ds)]) ∧ mdel x es = es) ∨
    (∃ q m ds ys, Instr.findNow kd x ents i = some (some (i + q, m.val)) ∧ ents[q]? = some m ∧ m.key = x ∧ mget x es = some ds ∧ DRL F ds ys ∧ m.val = valOf ys ∧
      (∀ ds' ys' (e : MapEntry), DRL F ds' ys' → e.key = x → e.val = valOf ys' → MR F (mput x ds' es) (ents.set q e)) ∧ MR F (mdel x es) (ents.eraseIdx q))
  | [], ents, i, h, _ => by
    simp only [MR] at h
    subst h
    exact .inl ⟨rfl, rfl, fun ds => rfl, rfl⟩
  | (y, e) :: es, ents, i, h, hl => by
    simp only [MR] at h
    obtain ⟨m, ms, rfl, h1, ⟨ys, h2, h3⟩, h4⟩ := h
    have hy : like x y = true := hl (y, e) List.mem_cons_self
    have hs := sameNow_like hk hy
    cases hb : vkeq x y with
    | true =>
      have hxy := vkeq_eq hb
      refine .inr ⟨0, m, e, ys, ?_, rfl, by rw [h1, hxy], ?_, h2, h3, ?_, ?_⟩
      · simp only [Instr.findNow, h1, hs, hb]; rfl
      · simp only [mget, hb, cond_true]
      · intro ds' ys' e' q1 q2 q3
        simp only [mput, hb, cond_true, List.set_cons_zero, MR]
        exact ⟨e', ms, rfl, by rw [q2, hxy], ⟨ys', q1, q3⟩, h4⟩
      · simp only [mdel, hb, cond_true, List.eraseIdx_cons_zero]; exact h4
    | false =>
      have hl' : AllLike x es := fun p hp => hl p (List.mem_cons_of_mem _ hp)
      rcases find_ok hk (i + 1) h4 hl' with ⟨q1, q2, q3, q4⟩ | ⟨q, m', ds, ys', q1, q2, q3, q4, q5, q6, q7, q8⟩
      · refine .inl ⟨?_, ?_, fun ds => ?_, ?_⟩
        · simp only [Instr.findNow, h1, hs, hb]; exact q1
        · simp only [mget, hb, cond_false]; exact q2
        · simp only [mput, hb, cond_false, q3 ds, List.cons_append]
        · simp only [mdel, hb, cond_false, q4]
      · refine .inr ⟨q + 1, m', ds, ys', ?_, by simpa using q2, q3, ?_, q5, q6, ?_, ?_⟩
        · simp only [Instr.findNow, h1, hs, hb]; rw [q1, show i + 1 + q = i + (q + 1) by omega]
        · simp only [mget, hb, cond_false]; exact q4
        · intro ds' ys2 e' r1 r2 r3
          simp only [mput, hb, cond_false, List.set_cons_succ, MR]
          exact ⟨m, _, rfl, h1, ⟨ys, h2, h3⟩, q7 ds' ys2 e' r1 r2 r3⟩
        · simp only [mdel, hb, cond_false, List.eraseIdx_cons_succ, MR]
          exact ⟨m, _, rfl, h1, ⟨ys, h2, h3⟩, q8⟩

theorem checkKey_run {P : Program} {kt : TypeId} {kd : TypeDesc} (hu : P.underlying kt = some kd) {x : Value} (hk : KeyT kd x) (b : Bool) (w : World) : (Instr.checkKey b 10000 kt x).run P w = .ok () w := by
  rcases hk with ⟨ik, k, n, rfl, rfl⟩ | ⟨s, rfl, rfl⟩ <;>
    (unfold Instr.checkKey; simp only [bind, run_bind, Cv.run_underlying hu]; rfl)

theorem findKey_run {P : Program} {kt : TypeId} {kd : TypeDesc} (hu : P.underlying kt = some kd) {x : Value} {ents : List MapEntry} {r : Option (Nat × Value)} (h : Instr.findNow kd x ents 0 = some r) (w : World) : (Instr.findKey kt x ents).run P w = .ok r w := by
  simp only [Instr.findKey, bind, run_bind, Cv.run_underlying hu, h]
  rfl

theorem mapT_some {P : Program} {t : TypeId} {ke : TypeId × TypeId} (h : mapT P t = some ke) : P.underlying t = some (.map ke.1 ke.2) := by
  unfold mapT at h
  split at h
  · rename_i k e hu; cases h; exact hu
  · cases h

theorem mkM_val {P : Program} {E : Ev} {t : TypeId} {ds : List D} {v : V} (h : mkM P t ds = some v) {ys : List Value} (hd : DRL E.F ds ys) : VR E v (valOf ys) := by
  unfold mkM at h
  split at h
  · obtain ⟨hb, h⟩ := cond_some h
    cases h
    simp only [Bool.and_eq_true, Bool.not_eq_true'] at hb
    have h1 := Nat.eq_of_beq_eq_true hb.1
    have hl : ys.length = ds.length := hd.length
    have : valOf ys = .agg ys.toArray := by
      unfold valOf
      split
      · rename_i y
        rw [h1] at hl
        simp only [List.length_cons, List.length_nil] at hl
        rw [← hl] at hb
        exact absurd hb.2 (by decide)
      · rfl
    rw [this]
    simp only [VR]
    exact ⟨ys, rfl, hd.vrl⟩
  · obtain ⟨hb, h⟩ := cond_some h
    split at h <;> first | (cases h; done) | skip
    cases h
    simp only [DRL] at hd
    obtain ⟨x, xs, rfl, h1, rfl⟩ := hd
    simpa only [VR, valOf] using h1

/-- The cells of the value of a key that isn't there. -/
def zeroM (P : Program) (t : TypeId) : Option (List D) :=
  match zeroS P t with
  | some (.agg cs) => (match aggS P t with
    | some _ => bif okc (.agg cs) then some (cs.toList.map .v) else none
    | none => none)
  | some z => (match aggS P t with
    | some _ => none
    | none => bif z.oneC then some [.v z] else none)
  | none => none

theorem zeroM_ok {P : Program} {E : Ev} {t : TypeId} {ds : List D} {v : V} (h : zeroM P t = some ds) (hm : mkM P t ds = some v) : ∃ z, zeroS P t = some z ∧ VR E v z := by
  unfold zeroM at h
  split at h
  · rename_i cs hz
    split at h <;> first | (cases h; done) | skip
    rename_i n hn
    obtain ⟨hb, h⟩ := cond_some h
    cases h
    refine ⟨_, hz, ?_⟩
    simp only [mkM, hn] at hm
    obtain ⟨_, hm⟩ := cond_some hm
    cases hm
    simp only [VR]
    refine ⟨cs.toList, by simp, ?_⟩
    rw [List.map_map]
    exact leafs hb
  · rename_i z hne hz
    split at h <;> first | (cases h; done) | skip
    rename_i hn
    obtain ⟨hb, h⟩ := cond_some h
    cases h
    refine ⟨_, hz, ?_⟩
    simp only [mkM, hn] at hm
    obtain ⟨_, hm⟩ := cond_some hm
    cases hm
    simp only [VR, DR]
    exact ⟨trivial, hb⟩
  · cases h

/-! ### The operations -/
def sr (P : Program) (o : Oper) (ρ : SEnv) (s : St) (K : V → Prop) : Prop :=
  match o.op with
  | .load t x => match sev ρ x with
    | .nm n off => match s.get n with
      | some (.cells vs _) => optK (partL P t vs off) K
      | _ => False
    | .el n sz i f => optK (slData s (.own n)) fun se => bif Nat.beq sz se.1 then shT P t fun ds => elPart se.2 i f ds.length = some ds ∧ optK (mkD P t ds) K else False
    | .re sz els i f => shT P t fun ds => elPart els i f ds.length = some ds ∧ optK (mkD P t ds) K
    | _ => False
  | .indexAddr t x i => match sev ρ x with
    | .own n => match sev ρ i with
      | .d (.v (.int _ i)) => optK (slElem P t) fun sz => optK (slData s (.own n)) fun se => bif Nat.beq sz se.1 then (0 ≤ i ∧ i < se.2.length) ∧ K (.el n sz i.toNat 0) else False
      | _ => False
    | _ => False
  | .binOp op t x y _ => match sev ρ x with
    | .own n => bif nilSlC y && isSlT P t then optK (slData s (.own n)) fun se => nilAsk op se.2 K else False
    | _ => False
  | .convert st d x => bif u8Sl P st && isStrT P d then optK (slData s (sev ρ x)) fun se => ∃ b : ByteArray, se.1 = 1 ∧ se.2 = bytesE b ∧ K (.d (.v (.string b))) else False
  | .call c => match c.callee with
    | .builtin .len => match evs ρ c.args.toList with
      | [.own n] => optK c.argTypes[0]? fun t => bif isSlT P t then optK (slData s (.own n)) fun se => K (.d (.v (.int .i64 se.2.length))) else False
      | [.mp n] => optK c.argTypes[0]? fun t => bif isMapT P t then (match s.get n with
        | some (.map es) => K (.d (.v (.int .i64 es.length)))
        | _ => False) else False
      | _ => False
    | _ => False
  | .lookup t x i ok => match sev ρ x with
    | .mp n => match s.get n with
      | some (.map es) => optK (mapT P t) fun ke => optK (leaf (sev ρ i)) fun kv => bif keyS P ke.1 kv then optK (zeroM P ke.2) fun z => AllLike kv es ∧ ∃ b, shT P ke.2 fun ds => LK es kv z ds b ∧ optK (mkM P ke.2 ds) fun v => K (bif ok then .tup [v, .d (.v (.bool b))] else v) else False
      | _ => False
    | _ => False
  | _ => False

def SrOk (P : Program) (E : Ev) (o : Oper) (ρ : Env) (w : World) (K : V → Prop) : Prop := ∃ v y, K v ∧ VR E v y ∧ (execOp (ev ρ) o).run P w = .ok (.value y) w

theorem bytesE_run {P : Program} {F : PH} {b : ByteArray} {xs : List Value} (h : DRL F (bytesE b).flatten xs) : xs = (b.data.toList.map UInt8.toNat).map fun (n : Nat) => Value.int .u8 (n : Int) := by
  unfold bytesE at h
  revert h
  generalize b.data.toList = l
  induction l generalizing xs with
  | nil => intro h; simpa [DRL] using h
  | cons a l ih =>
    intro h
    simp only [List.map_cons, List.flatten_cons, List.cons_append, List.nil_append, DRL, DR] at h
    obtain ⟨x, ys, rfl, ⟨rfl, _⟩, h⟩ := h
    simp only [List.map_cons]
    rw [ih h]

theorem sr_sound {P : Program} {k : Ko} {L : List HP} {E : Ev} {s : St} {w : World} (R : Rel k L E s w) {ρS : SEnv} {ρ : Env} (he : EnvR E ρS ρ) {o : Oper} {K : V → Prop} (h : sr P o ρS s K) : SrOk P E o ρ w K := by
  cases ho : o.op
  case load t x =>
    simp only [sr, ho] at h
    have hv := he.ev x
    split at h <;> first | exact h.elim | skip
    · rename_i n off hx
      rw [hx] at hv; simp only [VR] at hv
      obtain ⟨b, oo, l, e1, e2⟩ := hv
      split at h <;> first | exact h.elim | skip
      rename_i vs T hg
      obtain ⟨v, hp, hk⟩ := optK_out h
      obtain ⟨b', l', sub, q1, q2, q3⟩ := R.cells hg
      rw [e1] at q1; cases q1
      obtain ⟨y, hy, hh⟩ := partL_sound q2 q3 hp
      refine ⟨v, y, hk, hy, ?_⟩
      simp only [execOp, ho, e2, Nat.zero_add]
      exact run_value1 hh
    · rename_i n sz i f hx
      rw [hx] at hv; simp only [VR] at hv
      obtain ⟨b, oo, m, c, l, e1, e2⟩ := hv
      obtain ⟨⟨sz', els⟩, hd, h⟩ := optK_out h
      obtain ⟨hb, h⟩ := bif_out h
      have := Nat.eq_of_beq_eq_true hb
      simp only at this
      subst this
      obtain ⟨ds, hp, h⟩ := shT_out h
      obtain ⟨v, hm, hk⟩ := optK_out h
      obtain ⟨a, c', xs, q1, q2, q3, q4, q5⟩ := slData_ok R (v := .own n) (y := .slice (some ⟨b, oo, none⟩) m c) (by simp only [VR]; exact ⟨l, e1, _, _, _, rfl⟩) hd
      cases q1
      obtain ⟨y, hy, hh⟩ := run_load_sl q3 q4 q5 hp hm
      refine ⟨v, y, hk, hy, ?_⟩
      simp only [execOp, ho, e2]
      exact run_value1 hh
    · rename_i sz els i f hx
      rw [hx] at hv; simp only [VR] at hv
      obtain ⟨e0, e1, b, oo, l, T, fr, e2, e3, e4⟩ := hv
      obtain ⟨ds, hp, h⟩ := shT_out h
      obtain ⟨v, hm, hk⟩ := optK_out h
      obtain ⟨a, c', xs, q1, q2, q3, q4, q5⟩ := slR_of_DR R (sz := sz) (els := els) (y := .slice (some ⟨b, oo, none⟩) els.length els.length) (by
        simp only [DR]; exact ⟨_, _, rfl, Nat.le_refl _, e1, .inr ⟨b, oo, l, T, fr, rfl, e3, e4⟩⟩)
      cases q1
      obtain ⟨y, hy, hh⟩ := run_load_sl q3 q4 q5 hp hm
      refine ⟨v, y, hk, hy, ?_⟩
      simp only [execOp, ho, e2]
      exact run_value1 hh
  case indexAddr t x i =>
    simp only [sr, ho] at h
    have hv := he.ev x
    split at h <;> first | exact h.elim | skip
    rename_i n hx
    split at h <;> first | exact h.elim | skip
    rename_i kk i' hi
    have hiv := he.ev i
    rw [hi] at hiv
    have hiv := hiv.intv
    obtain ⟨sz, hs, h⟩ := optK_out h
    obtain ⟨⟨sz', els⟩, hd, h⟩ := optK_out h
    obtain ⟨hb, ⟨h0, h1⟩, hk⟩ := bif_out h
    have := Nat.eq_of_beq_eq_true hb
    simp only at this
    subst this
    simp only at h1
    rw [hx] at hv
    have hv' := hv
    simp only [VR] at hv'
    obtain ⟨sub, e1, _⟩ := hv'
    obtain ⟨a, c', xs, q1, q2, q3, q4, q5⟩ := slData_ok R hv hd
    obtain ⟨b, oo, l, T, fr, rfl, e2, e3⟩ := slR_at q5 (by omega)
    rw [q1] at e1
    refine ⟨_, .pointer (some ⟨b, oo + i'.toNat * sz + 0, none⟩), hk, by simp only [VR]; exact ⟨_, _, _, _, _, e1, rfl⟩, ?_⟩
    simp only [execOp, ho, q1, hiv]
    refine run_value1 ?_
    rw [run_indexAt_slice hs ⟨h0, by omega⟩, add_mk]
    rfl
  case binOp op t x y u =>
    simp only [sr, ho] at h
    split at h <;> first | exact h.elim | skip
    rename_i n hx
    obtain ⟨hb, h⟩ := bif_out h
    simp only [Bool.and_eq_true] at hb
    obtain ⟨⟨sz', els⟩, hd, hk⟩ := optK_out h
    have hv := he.ev x
    rw [hx] at hv
    obtain ⟨a, c', xs, q1, q2, q3, q4, q5⟩ := slData_ok R hv hd
    obtain ⟨v, y', h1, h2, h3⟩ := nilAsk_run (E := E) ho hb.1 hb.2 q1 (fun ha => by
      obtain ⟨z, hz, _⟩ := q5
      rcases hz with ⟨h1, _⟩ | ⟨_, _, _, _, _, h1, _⟩
      · exact List.eq_nil_of_length_eq_zero h1
      · rw [ha] at h1; cases h1) hk
    exact ⟨v, y', h1, h2, h3 w⟩
  case convert st d x =>
    simp only [sr, ho] at h
    obtain ⟨hb, h⟩ := bif_out h
    simp only [Bool.and_eq_true] at hb
    obtain ⟨⟨sz', els⟩, hd, h⟩ := optK_out h
    obtain ⟨b, rfl, rfl, hk⟩ := h
    obtain ⟨a, c', xs, q1, q2, q3, q4, q5⟩ := slData_ok R (he.ev x) hd
    refine ⟨_, .string b, hk, leaf_mk rfl, ?_⟩
    obtain ⟨e, hes, hu⟩ := u8Sl_some hb.1
    simp only [execOp, ho, q1]
    refine run_value1 ?_
    have hxs := bytesE_run (P := P) q3
    obtain ⟨r1, hfc, r3⟩ := src_run (P := P) (.inl ⟨a, c', rfl, q5⟩)
    rcases a with _ | ad
    · obtain ⟨x, hx, hs⟩ := q5
      have hz : (bytesE b).length = 0 := by
        rcases hx with ⟨h1, _⟩ | ⟨_, _, _, _, _, h1, _⟩
        · exact h1
        · cases h1
      have hb0 : b = .empty := by
        unfold bytesE at hz
        simp at hz
        simpa using hz
      subst hb0
      simp only [convert, bind, run_bind, Cv.run_underlying hes, Cv.run_underlying (isStrT_some hb.2), Cv.run_underlying hu]
      rfl
    · simp only [Builtin.firstCells, Nat.mul_one] at hfc
      rw [hxs] at hfc
      simp only [convert, bind, run_bind, Cv.run_underlying hes, Cv.run_underlying (isStrT_some hb.2), Cv.run_underlying hu, Conv.bytesToString, hfc]
      rw [← Array.forIn_toList]
      simp only [bind, pure]
      rw [run_bytesFor (P := P) w (fun _ _ => rfl) _ .empty]
      simp only [Sem.run]
      congr 2
      rw [Cv.bs_toNat]
      apply ByteArray.ext
      simp
  case call c =>
    simp only [sr, ho] at h
    split at h <;> first | exact h.elim | skip
    rename_i hc
    obtain ⟨ys, e1, e2⟩ := evs_arr he c.args
    split at h <;> first | exact h.elim | skip
    · rename_i n hargs
      obtain ⟨t, ht, h⟩ := optK_out h
      obtain ⟨hs, h⟩ := bif_out h
      obtain ⟨⟨sz', els⟩, hd, hk⟩ := optK_out h
      rw [hargs] at e2
      simp only [VRL] at e2
      obtain ⟨y, _, rfl, hv, rfl⟩ := e2
      obtain ⟨a, c', xs, rfl, q2, q3, q4, q5⟩ := slData_ok R hv hd
      refine ⟨_, .int .i64 els.length, hk, leaf_mk rfl, ?_⟩
      rw [exec_builtin ho hc, e1]
      obtain ⟨e, hse⟩ := isSlT_some hs
      refine run_value1 ?_
      simp only [Builtin.len_, ht, List.getElem?_toArray, List.getElem?_cons_zero, bind, run_bind, Cv.run_underlying hse]
      rfl
    · rename_i n hargs
      obtain ⟨t, ht, h⟩ := optK_out h
      obtain ⟨hs, h⟩ := bif_out h
      split at h <;> first | exact h.elim | skip
      rename_i es hg
      rw [hargs] at e2
      simp only [VRL, VR] at e2
      obtain ⟨y, _, rfl, ⟨bm, sub, e3, rfl⟩, rfl⟩ := e2
      obtain ⟨hd, x, q1, q2, q3⟩ := R.row hg (by simp)
      rw [e3] at q1; cases q1
      simp only [rowHP] at q2
      obtain ⟨b, ents, ck, e4, e5, rfl⟩ := q2
      cases e4
      have hm := q3 bm _ (by simp [one]; rfl)
      have hl : ents.length = es.length := by
        clear q3 hm hg h
        induction es generalizing ents with
        | nil => simp only [MR] at e5; rw [e5]; rfl
        | cons p es ih => obtain ⟨m, ms, rfl, _, _, e5⟩ := e5; simp [ih _ e5]
      refine ⟨_, .int .i64 es.length, h, leaf_mk rfl, ?_⟩
      rw [exec_builtin ho hc, e1]
      obtain ⟨kt, e, hse⟩ := isMapT_some hs
      refine run_value1 ?_
      simp only [Builtin.len_, ht, List.getElem?_toArray, List.getElem?_cons_zero, bind, run_bind, Cv.run_underlying hse, run_getObj hm trivial]
      simp [pure, Sem.run, goInt, hl]
  case lookup t x i ok =>
    simp only [sr, ho] at h
    split at h <;> first | exact h.elim | skip
    rename_i n hx
    split at h <;> first | exact h.elim | skip
    rename_i es hg
    obtain ⟨ke, hke, h⟩ := optK_out h
    obtain ⟨kv, hkv, h⟩ := optK_out h
    obtain ⟨hks, h⟩ := bif_out h
    obtain ⟨z, hz, hal, b, h⟩ := optK_out h
    obtain ⟨ds, hlk, h⟩ := shT_out h
    obtain ⟨v, hm, hk⟩ := optK_out h
    have hv := he.ev x
    rw [hx] at hv
    simp only [VR] at hv
    obtain ⟨bm, sub, e1, e2⟩ := hv
    obtain ⟨hd, x', q1, q2, q3⟩ := R.row hg (by simp)
    rw [e1] at q1; cases q1
    simp only [rowHP] at q2
    obtain ⟨b', ents, ck, e4, e5, rfl⟩ := q2
    rw [e2] at e4; cases e4
    have hmm := q3 bm _ (by simp [one]; rfl)
    have hi : ev ρ i = kv := leaf_ok hkv (he.ev i)
    obtain ⟨kd, hu, hkt⟩ := keyS_some hks
    have hzr : ∀ v, mkM P ke.2 z = some v → ∃ zv, zeroS P ke.2 = some zv ∧ VR E v zv := fun v hv => zeroM_ok hz hv
    refine ⟨bif ok then .tup [v, .d (.v (.bool b))] else v, ?_⟩
    have run : ∃ y, VR E v y ∧ (Instr.lookup t (.map (some bm)) kv ok).run P w = .ok (if ok then .tuple #[y, .bool b] else y) w := by
      rcases find_ok hkt 0 e5 hal with ⟨r1, r2, r3, r4⟩ | ⟨q, m, ds', ys, r1, r2, r3, r4, r5, r6, r7, r8⟩
      · rcases hlk with ⟨l1, l2⟩ | ⟨l1, l2, l3⟩
        · rw [r2] at l1; cases l1
        · subst l2 l3
          obtain ⟨zv, z1, z2⟩ := hzr v hm
          refine ⟨zv, z2, ?_⟩
          simp only [Instr.lookup, bind, run_bind, Cv.run_underlying (mapT_some hke), run_getObj hmm trivial, pure, Sem.run, checkKey_run hu hkt, findKey_run hu r1, zero_run (zeroS_some z1)]
      · rcases hlk with ⟨l1, l2⟩ | ⟨l1, l2, l3⟩
        · rw [r4] at l1; cases l1
          subst l2
          refine ⟨valOf ys, mkM_val hm r5, ?_⟩
          simp only [Instr.lookup, bind, run_bind, Cv.run_underlying (mapT_some hke), run_getObj hmm trivial, pure, Sem.run, checkKey_run hu hkt, findKey_run hu r1, r6]
        · rw [r4] at l1; cases l1
    obtain ⟨y, hy, hrun⟩ := run
    refine ⟨if ok then .tuple #[y, .bool b] else y, hk, ?_, ?_⟩
    · cases ok
      · exact hy
      · simp only [cond_true, if_true, VR, VRL, DR]
        exact ⟨[y, .bool b], rfl, y, _, rfl, hy, _, _, rfl, ⟨rfl, rfl⟩, rfl⟩
    · simp only [execOp, ho, e2, hi]
      exact run_value1 hrun
  all_goals (simp only [sr, ho] at h)

end Sx
