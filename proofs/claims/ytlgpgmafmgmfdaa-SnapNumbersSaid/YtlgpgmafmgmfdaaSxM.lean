/- A symbolic walk, thirteenth part: functions. No condition. -/
import Derived.Test.YtlgpgmafmgmfdaaSxL
set_option linter.unusedSimpArgs false
set_option linter.unusedVariables false
namespace Sx
open Go Go.RowKit Cv

variable {P : Program} {k : Ko} {L : List HP}

def sres (P : Program) (ρ : SEnv) (s : St) : List ResultVar → Option (List V)
  | [] => some []
  | .tmp t :: rs => match sres P ρ s rs with
    | some vs => some (ρ t :: vs)
    | none => none
  | .cell a t :: rs => match ρ a with
    | .nm n off => match s.get n with
      | some (.cells vs _) => match partL P t vs off with
        | some v => match sres P ρ s rs with
          | some us => some (v :: us)
          | none => none
        | none => none
      | _ => none
    | _ => none

def oneV1 : List V → V
  | [v] => v
  | vs => .tup vs

theorem sres_sound {E : Ev} {s : St} {w : World} (R : Rel k L E s w) {ρS : SEnv} {a : Act} (he : EnvR E ρS (envOf a)) : ∀ {rs : List ResultVar} {vs : List V}, sres P ρS s rs = some vs → ∃ ys, (rs.mapM (resS a.tmps)).run P w = .ok ys w ∧ VRL E vs ys
  | [], vs, h => by
    simp only [sres, Option.some.injEq] at h
    subst h
    exact ⟨[], rfl, VRL.nil⟩
  | .tmp t :: rs, vs, h => by
    simp only [sres] at h
    split at h <;> first | (cases h; done) | skip
    rename_i us hus
    cases h
    obtain ⟨ys, h1, h2⟩ := sres_sound R he hus
    refine ⟨envOf a t :: ys, ?_, by simp only [VRL]; exact ⟨_, _, rfl, he t, h2⟩⟩
    simp only [List.mapM_cons, resS, bind, pure, run_bind, Sem.bind, Sem.run] at h1 ⊢
    rw [h1]
  | .cell c t :: rs, vs, h => by
    simp only [sres] at h
    split at h <;> first | (cases h; done) | skip
    rename_i n off hc
    split at h <;> first | (cases h; done) | skip
    rename_i cs T hg
    split at h <;> first | (cases h; done) | skip
    rename_i v hp
    split at h <;> first | (cases h; done) | skip
    rename_i us hus
    cases h
    obtain ⟨ys, h1, h2⟩ := sres_sound R he hus
    have hv := he c
    rw [hc] at hv
    simp only [VR] at hv
    obtain ⟨b, oo, l, e1, e2⟩ := hv
    obtain ⟨b', l', sub, q1, q2, q3⟩ := R.cells hg
    rw [e1] at q1; cases q1
    obtain ⟨y, hy, hh⟩ := partL_sound q2 q3 hp
    refine ⟨y :: ys, ?_, by simp only [VRL]; exact ⟨_, _, rfl, hy, h2⟩⟩
    rw [Nat.zero_add] at e2
    have e2' : a.tmps.getD c undef = .pointer (some ⟨b, off, none⟩) := e2
    unfold Holds at hh
    simp only [List.mapM_cons, resS, bind, pure, run_bind, Sem.bind, Sem.run, e2', asAddr, hh] at h1 ⊢
    rw [h1]

def fnS (P : Program) (fn : Func) (K : V → St → Prop) : Exit → SEnv → St → Prop
  | .normal, ρ, s => optK (sres P ρ s fn.results.toList) fun vs => K (oneV1 vs) s
  | .ret, ρ, s => optK (sres P ρ s fn.results.toList) fun vs => K (oneV1 vs) s
  | _, _, _ => False

def vget : List V → Nat → V
  | [], _ => .top
  | v :: _, 0 => v
  | _ :: l, n + 1 => vget l n

def argEnv (args : List V) : SEnv := fun t => vget args t

theorem vget_ok {E : Ev} : ∀ {vs : List V} {ys : List Value}, VRL E vs ys → ∀ t, VR E (vget vs t) (ys.getD t undef)
  | [], ys, h, t => by simp only [vget, VR]
  | v :: vs, ys, h, t => by
    simp only [VRL] at h
    obtain ⟨x, xs, rfl, h1, h2⟩ := h
    cases t with
    | zero => exact h1
    | succ t => simpa [vget] using vget_ok h2 t

theorem does_call' {f : FuncId} {args : Array Value} {w : World} {K : Value → World → Prop} (hb : hasBody P f = true) (h : Calls P f args w fun e w' => ∃ v, e = .returned v ∧ K v w') : Does P (callFunc f args) w K := by
  unfold hasBody at hb
  split at hb
  · rename_i fn hfn
    simp only [Bool.and_eq_true, Bool.not_eq_true', Bool.not_eq_eq_eq_not, Bool.not_true] at hb
    unfold Does
    have : (callFunc f args).run P w = .ok (.enter f args) w := by
      simp only [callFunc, bind, pure, run_bind, program, Sem.run, Sem.bind, hfn, hb.1, hb.2, Bool.false_eq_true, if_false]
    rw [this]
    exact h
  · cases hb

/-- A call by the walk of its code. -/
theorem calls_of_scode {H : Hnd} (hH : HOk P H) (hm : P.follows .mixedOrders = true) {f : FuncId} {fn : Func} {c : Code} (hf : P.funcs[f]? = some fn) (hb : fn.body = some c) (hok : okC fn.ntmps c = true) (J : List (Nat × SAnn)) (an : List SAnn)
    {args : List V} (hsz : Nat.ble args.length fn.ntmps = true) {K : V → St → Prop} {s : St} (h : scode P H J an c (fnS P fn K) (argEnv args) s) {E : Ev} {w : World} {ys : List Value} (R : Rel k L E s w) (hv : VRL E args ys) :
    Calls P f ys.toArray w fun e w' => ∃ v, e = .returned v ∧ Outc k L E K v w' := by
  refine calls_of_wp hf hb ?_
  have hsz := Nat.le_of_ble_eq_true hsz
  have hlen := hv.length
  have hg : Good fn.ntmps (fun _ => true) (initEnv ys) { tmps := ys.toArray ++ Array.replicate (fn.ntmps - ys.toArray.size) undef, defers := [] } :=
    ⟨by simp; omega, rfl, fun s hs => by cases hs⟩
  have henv : envOf { tmps := ys.toArray ++ Array.replicate (fn.ntmps - ys.toArray.size) undef, defers := [] } = initEnv ys := by
    funext i
    simp only [envOf, initEnv, Array.getD_eq_getD_getElem?, List.getD_eq_getElem?_getD, Array.getElem?_append]
    split
    · simp
    · rename_i hlt
      simp at hlt
      rw [List.getElem?_eq_none hlt, Array.getElem?_replicate]
      split <;> rfl
  have he : EnvR E (argEnv args) (envOf { tmps := ys.toArray ++ Array.replicate (fn.ntmps - ys.toArray.size) undef, defers := [] }) := by
    rw [henv]
    intro t
    exact vget_ok hv t
  refine wp_mono (scode_sound hH hm c an _ (fun _ => true) (initEnv ys) E E _ w _ s hok (fun _ _ => rfl) hg (Ev.le.refl _) R he h) ?_
  have fin : ∀ {a' : Act} {w' : World} {E' : Ev} {ρ' : SEnv} {s' : St}, Good fn.ntmps (fun _ => true) (initEnv ys) a' → E.le E' → Rel k L E' s' w' → EnvR E' ρ' (envOf a') → (optK (sres P ρ' s' fn.results.toList) fun vs => K (oneV1 vs) s') →
      ∃ v, (results fn a'.tmps).run P w' = .ok v w' ∧ ∃ v', Ending.returned v = .returned v' ∧ Outc k L E K v' w' := by
    intro a' w' E' ρ' s' hg' hle' R' he' h'
    obtain ⟨vs, hvs, hk⟩ := optK_out h'
    obtain ⟨zs, h1, h2⟩ := sres_sound R' he' hvs
    refine ⟨oneOr zs, ?_, _, rfl, E', oneV1 vs, s', hle', R', ?_, hk⟩
    · unfold results
      rw [Array.mapM_eq_mapM_toList, map_eq_pure_bind, bind_assoc]
      exact results_any h1 _ (fun r => by cases r <;> rfl)
    · rcases vs with _ | ⟨v, _ | ⟨u, vs⟩⟩
      · simp only [VRL] at h2; subst h2
        simp only [oneV1, oneOr, VR]; exact ⟨[], rfl, VRL.nil⟩
      · simp only [VRL] at h2
        obtain ⟨x, xs, rfl, h3, rfl⟩ := h2
        exact h3
      · have h20 := h2
        simp only [VRL] at h2
        obtain ⟨x, xs, rfl, h3, y, ys', rfl, h4, h5⟩ := h2
        simp only [oneV1, oneOr, VR]; exact ⟨_, rfl, h20⟩
  rintro e a' w' ⟨hg', E', ρ', s', hle', R', he', h'⟩
  cases e <;> first | exact h'.elim | skip
  · obtain ⟨v, h1, h2⟩ := fin hg' hle' R' he' h'
    exact ⟨hg'.defers, v, h1, h2⟩
  · obtain ⟨v, h1, h2⟩ := fin hg' hle' R' he' h'
    exact ⟨hg'.defers, v, h1, h2⟩

theorem does_of_scode {H : Hnd} (hH : HOk P H) (hm : P.follows .mixedOrders = true) {f : FuncId} {fn : Func} {c : Code} (hf : P.funcs[f]? = some fn) (hb : fn.body = some c) (hbd : hasBody P f = true) (hok : okC fn.ntmps c = true) (J : List (Nat × SAnn)) (an : List SAnn)
    {args : List V} (hsz : Nat.ble args.length fn.ntmps = true) {K : V → St → Prop} {s : St} (h : scode P H J an c (fnS P fn K) (argEnv args) s) {E : Ev} {w : World} {ys : List Value} (R : Rel k L E s w) (hv : VRL E args ys) :
    Does P (callFunc f ys.toArray) w (Outc k L E K) := does_call' hbd (calls_of_scode hH hm hf hb hok J an hsz h R hv)

/-! ### A whole run, from a world as it is -/
def E0 (w : World) : Ev := ⟨fun b => w.heap[b]?, []⟩

theorem rel0 (w : World) : Rel (Cv.ko w) [] (E0 w) ⟨[], 0⟩ w := ⟨rfl, Hp.start w⟩

/-- A call from a world as it is: what it hands back; elder memory is as it was. -/
theorem calls_top {H : Hnd} (hH : HOk P H) (hm : P.follows .mixedOrders = true) {f : FuncId} {fn : Func} {c : Code} (hf : P.funcs[f]? = some fn) (hb : fn.body = some c) (hok : okC fn.ntmps c = true) (J : List (Nat × SAnn)) (an : List SAnn)
    {args : List V} (hsz : Nat.ble args.length fn.ntmps = true) {K : V → St → Prop} (h : scode P H J an c (fnS P fn K) (argEnv args) ⟨[], 0⟩) {w : World} {ys : List Value} (hv : VRL (E0 w) args ys) :
    Calls P f ys.toArray w fun e w' => ∃ y, e = .returned y ∧ Below w.heap.size w w' ∧ ∃ v E' s', VR E' v y ∧ K v s' := by
  refine (calls_of_scode hH hm hf hb hok J an hsz h (rel0 w) hv).mono ?_
  rintro e w' ⟨y, he, E', v, s', hle, R, hvr, hk⟩
  refine ⟨y, he, ?_, v, E', s', hvr, hk⟩
  have hfr := R.frozen
  obtain ⟨h1, h2, h3⟩ := R.hp.1
  have hblk : ∀ b, b < w.heap.size → w'.heap[b]? = w.heap[b]? := fun b hb => by
    have : w.heap[b]? = some w.heap[b] := Array.getElem?_eq_getElem hb
    rw [this]; exact hfr b _ (hle.1 b _ this)
  refine ⟨h1, h2, h3, ?_, hblk⟩
  rcases Nat.lt_or_ge w'.heap.size w.heap.size with hlt | hge
  · have := hblk w'.heap.size hlt
    rw [Array.getElem?_eq_none (Nat.le_refl _), Array.getElem?_eq_getElem hlt] at this
    cases this
  · exact hge

/-! ### Handlers -/
def glook (f : Nat) : List (Nat × Con) → Option Con
  | [] => none
  | (g, C) :: l => bif Nat.beq g f then some C else glook f l

def GOk (P : Program) : List (Nat × Con) → Prop
  | [] => True
  | (f, C) :: l => C.ok P f ∧ GOk P l

theorem glook_ok {f : Nat} : ∀ {G : List (Nat × Con)} {C : Con}, GOk P G → glook f G = some C → C.ok P f
  | [], C, _, h => by cases h
  | (g, D) :: l, C, hg, h => by
    simp only [glook] at h
    cases hb : Nat.beq g f
    · rw [hb] at h; exact glook_ok hg.2 h
    · rw [hb] at h
      cases h
      rw [← Nat.eq_of_beq_eq_true hb]; exact hg.1

/-- A call by a contract; or, without one, by the walk of the code, so deep. -/
def hnd (P : Program) (G : List (Nat × Con)) : Nat → Hnd
  | 0, f, args, s, K => match glook f G with
    | some C => C.call args s K
    | none => False
  | d + 1, f, args, s, K => match glook f G with
    | some C => C.call args s K
    | none => match P.funcs[f]? with
      | some fn => match fn.body with
        | some c => bif hasBody P f && okC fn.ntmps c && Nat.ble args.length fn.ntmps then scode P (hnd P G d) [] [] c (fnS P fn K) (argEnv args) s else False
        | none => False
      | none => False

theorem hnd_ok (hm : P.follows .mixedOrders = true) {G : List (Nat × Con)} (hG : GOk P G) : ∀ d, HOk P (hnd P G d) := by
  intro d
  induction d with
  | zero =>
    intro f args s K h k L E w ys R hv
    simp only [hnd] at h
    split at h <;> first | exact h.elim | skip
    rename_i C hC
    exact Con.call_sound (glook_ok hG hC) h R hv
  | succ d ih =>
    intro f args s K h k L E w ys R hv
    simp only [hnd] at h
    split at h
    · rename_i C hC
      exact Con.call_sound (glook_ok hG hC) h R hv
    · split at h <;> first | exact h.elim | skip
      rename_i fn hfn
      split at h <;> first | exact h.elim | skip
      rename_i c hc
      obtain ⟨hb, h⟩ := bif_out h
      simp only [Bool.and_eq_true] at hb
      exact does_of_scode ih hm hfn hc hb.1.1 hb.1.2 [] [] hb.2 h R hv

/-! ### A contract by a walk -/
def idNM : Nat → NM
  | 0 => []
  | m + 1 => (m, m) :: idNM m

theorem plook_id : ∀ {m p : Nat}, p < m → plook p (idNM m) = some p
  | m + 1, p, h => by
    simp only [idNM, plook]
    cases hb : Nat.beq m p
    · have : m ≠ p := fun e => by subst e; simp at hb
      exact plook_id (by omega)
    · rw [← Nat.eq_of_beq_eq_true hb]; rfl
theorem plook_id_inv : ∀ {m p q : Nat}, plook p (idNM m) = some q → p < m ∧ q = p
  | 0, p, q, h => by cases h
  | m + 1, p, q, h => by
    simp only [idNM, plook] at h
    cases hb : Nat.beq m p
    · rw [hb] at h
      obtain ⟨h1, h2⟩ := plook_id_inv h
      exact ⟨by omega, h2⟩
    · rw [hb] at h
      have := Nat.eq_of_beq_eq_true hb
      simp only [cond_true, Option.some.injEq] at h
      exact ⟨by omega, by omega⟩

def endA (m : Nat) (v : V) (s : St) (a : Alt) : Prop :=
  ∃ o, mtV (a.res o) v (idNM m) s fun π s => mtR 0 (a.post o) π s fun π _ => bif namesLt (a.post o).length π && Nat.ble m (a.post o).length then a.rel o else False

def endK (m : Nat) (v : V) (s : St) : List Alt → Prop
  | [] => False
  | [a] => endA m v s a
  | a :: l => endA m v s a ∨ endK m v s l

theorem endK_out {m : Nat} {v : V} {s : St} : ∀ {l : List Alt}, endK m v s l → ∃ a ∈ l, endA m v s a
  | [a], h => ⟨a, by simp, h⟩
  | a :: b :: l, h => by
    rcases h with h | h
    · exact ⟨a, by simp, h⟩
    · obtain ⟨c, h1, h2⟩ := endK_out h
      exact ⟨c, List.mem_cons_of_mem _ h1, h2⟩

theorem endA_ok {w : World} {m : Nat} {v : V} {s : St} {a : Alt} {E0 E : Ev} (h : endA m v s a) (hn : E0.tab.length = m) (hle : E0.le E) (R : Rel k L E s w) {y : Value} (hv : VR E v y) :
    ∃ o, a.rel o ∧ ∃ E', E0.le E' ∧ VR E' (a.res o) y ∧ Rel k L E' ⟨rowsOf 0 (a.post o), (a.post o).length⟩ w := by
  obtain ⟨o, h⟩ := h
  have hid : WfM (idNM m) E.tab := fun p n e => by
    obtain ⟨h1, rfl⟩ := plook_id_inv e
    exact ⟨E0.tab[n]'(by omega), hle.get (List.getElem?_eq_getElem (by omega))⟩
  obtain ⟨E1, π1, s1, q1, q2, q3⟩ := mtV_ok h R hid hv
  obtain ⟨E2, π2, s2, r1, r2⟩ := mtR_ok q3 q1.rel q1.wf
  obtain ⟨hb, hrel⟩ := bif_out r2
  simp only [Bool.and_eq_true] at hb
  have hlt := namesLt_ok hb.1
  have hmq := Nat.le_of_ble_eq_true hb.2
  let q := (a.post o).length
  let tl : List Hd := (List.range q).map fun p => (E2.tab[(plook p π2).getD 0]?).getD (undef, [])
  have hget : ∀ p, p < q → tl[p]? = some ((E2.tab[(plook p π2).getD 0]?).getD (undef, [])) := fun p hp => by
    show ((List.range q).map _)[p]? = _
    rw [List.getElem?_map, List.getElem?_range hp]; rfl
  have hloc : Loc π2 E2.tab tl := by
    intro p n hp
    obtain ⟨hd, h'⟩ := r1.wf p n hp
    refine ⟨hd, h', ?_⟩
    rw [hget p (hlt p n hp)]
    simp only [hp, Option.getD_some, h']
  have hle2 : E0.le E2 := hle.trans (q1.le.trans r1.le)
  have hpre : E0.tab <+: tl := by
    refine ⟨tl.drop m, ?_⟩
    apply List.ext_getElem?
    intro p
    by_cases hp : p < m
    · rw [List.getElem?_append_left (by omega)]
      have hpl : plook p π2 = some p := r1.ext _ _ (q1.ext _ _ (plook_id hp))
      have e1 : E0.tab[p]? = some (E0.tab[p]'(by omega)) := List.getElem?_eq_getElem (by omega)
      rw [hget p (by omega), hpl, Option.getD_some, hle2.get e1, e1]; rfl
    · rw [List.getElem?_append_right (by omega), List.getElem?_drop, hn, show m + (p - m) = p by omega]
  refine ⟨o, hrel, ⟨E2.F, tl⟩, ⟨hle2.1, hpre⟩, q2 E2 π2 r1.le r1.ext tl hloc, ⟨by simp [tl, q], ?_⟩⟩
  have H := r1.rel.frontL
  have H1 := hp_map (g := rHP ⟨E2.F, tl⟩) (fun r x hx => by
    rcases hx with ⟨e1, e2⟩ | ⟨n, h1, h2⟩
    · exact .inl ⟨e1, e2⟩
    · right
      obtain ⟨hd, h3, h4⟩ := h2 E2 π2 (Ev.le.refl _) (Ext.refl _) tl hloc
      obtain ⟨hd', h5, h6⟩ := hloc _ _ h1
      rw [h3] at h5; cases h5
      exact ⟨hd, h6, h4⟩) H
  have H2 : Hp k w (s2.rows.map (rHP E2) ++ ((rowsOf 0 (a.post o)).map (rHP ⟨E2.F, tl⟩) ++ fz E2.F :: L)) := by
    refine H1.perm ?_
    rw [← List.append_assoc, ← List.append_assoc]
    exact List.perm_append_comm.append_right _
  have hdrop : ∀ (l : List (Nat × AObj)) {M : List HP}, Hp k w (l.map (rHP E2) ++ M) → Hp k w M := by
    intro l
    induction l with
    | nil => intro M H; exact H
    | cons a l ih => intro M H; exact ih H.drop
  exact hdrop _ H2

/-- Folded rows that are taken apart at the beginning. -/
def openAt (n : Nat) (s : St) : St :=
  match s.get n with
  | some (.adt _ m unf x) => bif Nat.ble 1 m then ⟨(n, (unfAt (s.del n) n m (unf x)).1) :: (unfAt (s.del n) n m (unf x)).2.rows, (unfAt (s.del n) n m (unf x)).2.nx⟩ else s
  | _ => s

def openAll : List Nat → St → St
  | [], s => s
  | n :: l, s => openAll l (openAt n s)

theorem openAt_ok {w : World} {E : Ev} {s : St} (R : Rel k L E s w) (n : Nat) : ∃ E', E.le E' ∧ Rel k L E' (openAt n s) w := by
  unfold openAt
  split
  · rename_i T m unf x hg
    cases hb : Nat.ble 1 m
    · exact ⟨E, Ev.le.refl _, R⟩
    · obtain ⟨E', h1, h2⟩ := (R.take hg).unfold (Nat.le_of_ble_eq_true hb)
      refine ⟨E', h1, ⟨h2.nx, ?_⟩⟩
      have := h2.out
      simpa using this
  · exact ⟨E, Ev.le.refl _, R⟩

theorem openAll_ok {w : World} : ∀ (l : List Nat) {E : Ev} {s : St} (R : Rel k L E s w), ∃ E', E.le E' ∧ Rel k L E' (openAll l s) w
  | [], E, s, R => ⟨E, Ev.le.refl _, R⟩
  | n :: l, E, s, R => by
    obtain ⟨E1, h1, h2⟩ := openAt_ok R n
    obtain ⟨E2, h3, h4⟩ := openAll_ok l h2
    exact ⟨E2, h1.trans h3, h4⟩

/-- The walk of a function, from a contract's arguments and rows to its ends. -/
def walk (P : Program) (G : List (Nat × Con)) (d : Nat) (J : List (Nat × SAnn)) (an : List SAnn) (op : List Nat) (fn : Func) (c : Code) (args : List V) (rows : List AObj) (alts : List Alt) : Prop :=
  scode P (hnd P G d) J an c (fnS P fn fun v s => endK rows.length v s alts) (argEnv args) (openAll op ⟨rowsOf 0 rows, rows.length⟩)

theorem ok_of_walk (hm : P.follows .mixedOrders = true) {f : FuncId} {fn : Func} {c : Code} {C : Con} (G : List (Nat × Con)) (hG : GOk P G) (d : Nat) (J : C.ι → List (Nat × SAnn)) (an : C.ι → List SAnn) (op : List Nat) (hf : P.funcs[f]? = some fn) (hb : fn.body = some c) (hbd : hasBody P f = true) (hok : okC fn.ntmps c = true)
    (hsz : ∀ i, Nat.ble (C.pat i).length fn.ntmps = true) (h : ∀ i, C.cnd i → walk P G d (J i) (an i) op fn c (C.pat i) (C.pre i) (C.alts i)) : C.ok P f := by
  intro i hc k L E w ys R hv
  obtain ⟨E1, hle, R1⟩ := openAll_ok op R
  refine (does_of_scode (hnd_ok hm hG d) hm hf hb hbd hok (J i) (an i) (hsz i) (h i hc) R1 (hv.mono hle)).mono ?_
  rintro y w' ⟨E', v, s', hle', R', hv', hk⟩
  obtain ⟨a, ha, hend⟩ := endK_out hk
  obtain ⟨o, h1, E2, h2, h3, h4⟩ := endA_ok hend R.nx (hle.trans hle') R' hv'
  exact ⟨a, ha, o, h1, E2, h2, h3, h4⟩

theorem below_of_rel {E : Ev} {s : St} {w w' : World} (hle : (E0 w).le E) (R : Rel (Cv.ko w) [] E s w') : Below w.heap.size w w' := by
  have hfr := R.frozen
  obtain ⟨h1, h2, h3⟩ := R.hp.1
  have hblk : ∀ b, b < w.heap.size → w'.heap[b]? = w.heap[b]? := fun b hb => by
    have : w.heap[b]? = some w.heap[b] := Array.getElem?_eq_getElem hb
    rw [this]; exact hfr b _ (hle.1 b _ this)
  refine ⟨h1, h2, h3, ?_, hblk⟩
  rcases Nat.lt_or_ge w'.heap.size w.heap.size with hlt | hge
  · have := hblk w'.heap.size hlt
    rw [Array.getElem?_eq_none (Nat.le_refl _), Array.getElem?_eq_getElem hlt] at this
    cases this
  · exact hge

/-- A call from a world as it is, by a condition: how it ends; elder memory is as it was. -/
theorem calls_of_walk (hm : P.follows .mixedOrders = true) {f : FuncId} {fn : Func} {c : Code} (G : List (Nat × Con)) (hG : GOk P G) (d : Nat) (J : List (Nat × SAnn)) (an : List SAnn) (hf : P.funcs[f]? = some fn) (hb : fn.body = some c) (hok : okC fn.ntmps c = true)
    {args : List V} {alts : List Alt} (hsz : Nat.ble args.length fn.ntmps = true) (h : walk P G d J an [] fn c args [] alts) {w : World} {ys : List Value} (hv : VRL (E0 w) args ys) :
    Calls P f ys.toArray w fun e w' => ∃ y, e = .returned y ∧ Below w.heap.size w w' ∧ ∃ a ∈ alts, ∃ o, a.rel o ∧ ∃ E', VR E' (a.res o) y := by
  refine (calls_of_scode (hnd_ok hm hG d) hm hf hb hok J an hsz h (rel0 w) hv).mono ?_
  rintro e w' ⟨y, he, E', v, s', hle, R, hvr, hk⟩
  obtain ⟨a, ha, hend⟩ := endK_out hk
  obtain ⟨o, h1, E2, h2, h3, h4⟩ := endA_ok hend rfl hle R hvr
  exact ⟨y, he, below_of_rel hle R, a, ha, o, h1, E2, h3⟩

end Sx
