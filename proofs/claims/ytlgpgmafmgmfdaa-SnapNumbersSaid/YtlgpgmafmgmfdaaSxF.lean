/- A symbolic walk, sixth part: operations that turn memory. No condition. -/
import Derived.Test.YtlgpgmafmgmfdaaSxE
set_option linter.unusedSimpArgs false
set_option linter.unusedVariables false
namespace Sx
open Go Go.RowKit Cv

/-- What stands behind a step that hands back a value. -/
def Outc (k : Ko) (L : List HP) (E : Ev) (K : V → St → Prop) (y : Value) (w' : World) : Prop := ∃ E' v s', E.le E' ∧ Rel k L E' s' w' ∧ VR E' v y ∧ K v s'

@[reducible] def Hnd := FuncId → List V → St → (V → St → Prop) → Prop

def HOk (P : Program) (H : Hnd) : Prop := ∀ f args s K, H f args s K → ∀ (k : Ko) (L : List HP) (E : Ev) (w : World) (ys : List Value), Rel k L E s w → VRL E args ys → Does P (callFunc f ys.toArray) w (Outc k L E K)

/-! ### Slices -/
structure SlI where
  e : TypeId
  sz : Nat
  by_ : Nat
  z : List D

def slInfoD (P : Program) (t : TypeId) : Option SlI :=
  match slInfo P t with
  | some (e, sz, by_, z) => bif Nat.beq z.size sz && z.toList.all (·.oneC) then some ⟨e, sz, by_, normD P (cellTys P 6 e) (z.toList.map .v)⟩ else none
  | none => none

theorem leafD {F : PH} : ∀ {l : List Value}, (l.all (·.oneC)) = true → DRL F (l.map .v) l
  | [], _ => by simp [DRL]
  | y :: l, h => by
    simp only [List.all_cons, Bool.and_eq_true] at h
    simp only [List.map_cons, DRL, DR]
    exact ⟨y, l, rfl, ⟨rfl, h.1⟩, leafD h.2⟩

theorem slInfoD_some {P : Program} {t : TypeId} {i : SlI} (h : slInfoD P t = some i) : ∃ z, slInfo P t = some (i.e, i.sz, i.by_, z) ∧ z.size = i.sz ∧ i.z.length = i.sz ∧ ∀ F, DRL F i.z z.toList := by
  unfold slInfoD at h
  split at h <;> first | (cases h; done) | skip
  rename_i e sz by_ z hz
  obtain ⟨hb, h⟩ := cond_some' h
  cases h
  simp only [Bool.and_eq_true] at hb
  have h1 := Nat.eq_of_beq_eq_true hb.1
  exact ⟨z, hz, h1, by rw [normD_len, List.length_map, Array.length_toList, h1], fun F => normD_ok (leafD hb.2)⟩

def splG {α : Type} (l : List α) (o : Nat) (vs : List α) : List α := l.take o ++ (vs ++ l.drop (o + vs.length))

theorem flat_set {α : Type} {sz : Nat} : ∀ {els : List (List α)} (i : Nat) (ds : List α), (∀ el ∈ els, el.length = sz) → i < els.length → ds.length = sz →
    (els.set i ds).flatten = splG els.flatten (i * sz) ds
  | [], i, ds, _, h, _ => by simp at h
  | el :: els, 0, ds, hu, h, hd => by
    simp only [List.set_cons_zero, List.flatten_cons, splG, Nat.zero_mul, List.take_zero, List.nil_append, Nat.zero_add]
    rw [hd, ← hu el List.mem_cons_self, List.drop_left]
  | el :: els, i + 1, ds, hu, h, hd => by
    have ih := flat_set (els := els) i ds (fun e he => hu e (List.mem_cons_of_mem _ he)) (by simpa using h) hd
    simp only [List.set_cons_succ, List.flatten_cons, splG] at ih ⊢
    rw [ih]
    have e1 := hu el List.mem_cons_self
    rw [Nat.succ_mul, Nat.add_comm (i * sz) sz, List.take_append, List.drop_append, e1]
    rw [List.take_of_length_le (show el.length ≤ sz + i * sz by omega), show sz + i * sz - sz = i * sz by omega, List.drop_eq_nil_of_le (show el.length ≤ sz + i * sz + ds.length by omega), show sz + i * sz + ds.length - sz = i * sz + ds.length by omega]
    simp

theorem drl_spl {F : PH} {ds es : List D} {l m : List Value} (h1 : DRL F ds l) (h2 : DRL F es m) (o : Nat) : DRL F (ds.take o ++ (es ++ ds.drop (o + es.length))) (spl l o m) := by
  unfold spl
  rw [List.append_assoc]
  have := h2.length
  rw [this]
  exact (h1.take o).append (h2.append (h1.drop _))

/-- Elements filled in. -/
def fillE (P : Program) (e sz : Nat) : St → List (Nat × V) → List (List D) → Option (List (List D) × St)
  | s, [], els => some (els, s)
  | s, (i, v) :: ps, els => match elD P s e v with
    | some (ds, s') => bif Nat.beq ds.length sz && Nat.blt i els.length then fillE P e sz s' ps (els.set i ds) else none
    | none => none

theorem uni_set {α : Type} {sz : Nat} {els : List (List α)} {i : Nat} {ds : List α} (hu : ∀ el ∈ els, el.length = sz) (hd : ds.length = sz) : ∀ el ∈ els.set i ds, el.length = sz := by
  intro el hel
  rcases List.mem_or_eq_of_mem_set hel with h | rfl
  · exact hu el h
  · exact hd

theorem fillE_ok {P : Program} {k : Ko} {L : List HP} {w : World} {e sz : Nat} : ∀ {ps : List (Nat × V)} {E : Ev} {s : St} (R : Rel k L E s w) {els els' : List (List D)} {s' : St} {qs : List (Nat × Value)} {cs : List Value},
    fillE P e sz s ps els = some (els', s') → PRL E ps qs → (∀ el ∈ els, el.length = sz) → DRL E.F els.flatten cs →
    ∃ E' cs', E.le E' ∧ E'.tab = E.tab ∧ Rel k L E' s' w ∧ s'.nx = s.nx ∧ (∀ el ∈ els', el.length = sz) ∧ els'.length = els.length ∧ DRL E'.F els'.flatten cs' ∧ Instr.fill (fun i => some (i * sz, sz)) cs.toArray qs = some cs'.toArray
  | [], E, s, R, els, els', s', qs, cs, h, hp, hu, hc => by
    simp only [fillE, Option.some.injEq, Prod.mk.injEq] at h
    obtain ⟨rfl, rfl⟩ := h
    simp only [PRL] at hp
    subst hp
    exact ⟨E, cs, Ev.le.refl _, rfl, R, rfl, hu, rfl, hc, rfl⟩
  | (i, v) :: ps, E, s, R, els, els', s', qs, cs, h, hp, hu, hc => by
    simp only [fillE] at h
    simp only [PRL] at hp
    obtain ⟨y, qs, rfl, hv, hp⟩ := hp
    split at h <;> first | (cases h; done) | skip
    rename_i ds s1 hd
    obtain ⟨hb, h⟩ := cond_some' h
    simp only [Bool.and_eq_true] at hb
    have hlen := Nat.eq_of_beq_eq_true hb.1
    have hi : i < els.length := by simpa [Nat.blt_eq] using hb.2
    obtain ⟨E1, ys, q1, q2, q3, q4, q5, q6⟩ := elD_ok R hd hv
    have hp1 : PRL E1 ps qs := by
      have : ∀ {ps : List (Nat × V)} {qs : List (Nat × Value)}, PRL E ps qs → PRL E1 ps qs := by
        intro ps
        induction ps with
        | nil => intro qs h; exact h
        | cons p ps ih => obtain ⟨i, v⟩ := p; intro qs h; obtain ⟨y, ys, h1, h2, h3⟩ := h; exact ⟨y, ys, h1, h2.mono q1, ih h3⟩
      exact this hp
    have hc1 : DRL E1.F (els.set i ds).flatten (spl cs (i * sz) ys) := by
      rw [flat_set i ds hu hi hlen]
      exact drl_spl (hc.mono q1.1) q6 (i * sz)
    obtain ⟨E2, cs', r1, r2, r3, r4, r5, r6, r7, r8⟩ := fillE_ok q3 h hp1 (uni_set hu hlen) hc1
    refine ⟨E2, cs', q1.trans r1, r2.trans q2, r3, r4.trans q4, r5, by rw [r6, List.length_set], r7, ?_⟩
    have hyl : ys.length = sz := by rw [q6.length, hlen]
    have hcl : cs.length = els.length * sz := by rw [hc.length, flat_len hu]
    have hin : i * sz + sz ≤ els.length * sz := by
      have := Nat.mul_le_mul_right sz (show i + 1 ≤ els.length by omega)
      rwa [Nat.succ_mul] at this
    have hysz : y.cells.size = sz := by rw [q5, List.size_toArray, hyl]
    have hbb : (decide (y.cells.size ≠ sz) || decide (i * sz + y.cells.size > cs.toArray.size)) = false := by
      rw [hysz, List.size_toArray]
      simp; omega
    have hfold : y.cells.zipIdx.foldl (fun (cs : Array Value) (p : Value × Nat) => cs.setIfInBounds (i * sz + p.2) p.1) cs.toArray = (spl cs (i * sz) ys).toArray := by
      have hz : ys.toArray.zipIdx = (ys.zipIdx).toArray := by
        apply Array.ext'
        simp
      rw [q5, hz, List.foldl_toArray]
      rw [fold_spl (off := i * sz) ys 0 cs (by omega)]
      rfl
    simp only [Instr.fill]
    rw [if_neg (by rw [hbb]; simp), hfold]
    exact r8

theorem rowOf_rep' {z : List Value} : ∀ n, (rowOf z.toArray (n * z.length)).toList = (List.replicate n z).flatten
  | 0 => by simp [rowOf]
  | n + 1 => by
    have ih := rowOf_rep' (z := z) n
    simp only [rowOf, List.size_toArray] at ih ⊢
    rw [List.replicate_succ, List.flatten_cons, ← ih, Nat.succ_mul, Nat.add_comm, List.range_add, List.map_append]
    congr 1
    · apply List.ext_getElem?
      intro i
      rw [List.getElem?_map]
      by_cases hi : i < z.length
      · rw [List.getElem?_range hi]
        simp only [Option.map_some, Nat.mod_eq_of_lt hi]
        rw [List.getD_eq_getElem?_getD]
        rw [List.getElem?_eq_getElem hi]
        rfl
      · rw [List.getElem?_eq_none (by simpa using Nat.not_lt.1 hi), List.getElem?_eq_none (Nat.not_lt.1 hi)]
        rfl
    · rw [List.map_map]
      refine List.map_congr_left fun j _ => ?_
      simp only [Function.comp, Nat.add_mod_left]

theorem drl_rep {F : PH} {ds : List D} {l : List Value} (h : DRL F ds l) : ∀ n, DRL F (List.replicate n ds).flatten (List.replicate n l).flatten
  | 0 => by simp [DRL]
  | n + 1 => by simp only [List.replicate_succ, List.flatten_cons]; exact h.append (drl_rep h n)

theorem uni_rep {α : Type} {ds : List α} {n sz : Nat} (h : ds.length = sz) : ∀ el ∈ List.replicate n ds, el.length = sz := by
  intro el hel
  rw [(List.mem_replicate.1 hel).2]; exact h

/-- An element with some cells written. -/
def elSet (els : List (List D)) (i f : Nat) (ds : List D) : List (List D) := els.modify i fun el => el.take f ++ (ds ++ el.drop (f + ds.length))

def oneV : V → Bool
  | .top => false
  | .agg _ => false
  | .tup _ => false
  | _ => true

def onesV : List V → Bool
  | [] => true
  | v :: l => bif oneV v then onesV l else false

theorem onesV_ok {E : Ev} : ∀ {vs : List V} {l : List Value}, onesV vs = true → VRL E vs l → ∀ y ∈ l, y.oneC = true
  | [], l, _, h => by simp only [VRL] at h; subst h; simp
  | v :: vs, l, hb, h => by
    simp only [VRL] at h
    obtain ⟨x, xs, rfl, h1, h2⟩ := h
    simp only [onesV] at hb
    obtain ⟨hb1, hb2⟩ : oneV v = true ∧ onesV vs = true := by
      revert hb
      generalize oneV v = b
      cases b <;> simp
    intro y hy
    rcases List.mem_cons.1 hy with rfl | hy
    · cases v <;> simp only [oneV, Bool.false_eq_true] at hb1 <;> simp only [VR] at h1
      · rename_i d; exact DRL.one (F := E.F) (vs := [d]) (l := [y]) (by simp only [DRL]; exact ⟨_, _, rfl, h1, rfl⟩) y (by simp)
      · obtain ⟨_, _, _, _, rfl⟩ := h1; rfl
      · obtain ⟨_, _, _, _, _, _, rfl⟩ := h1; rfl
      · obtain ⟨_, _, _, _, _, _, _, rfl, _⟩ := h1; rfl
      · obtain ⟨_, _, _, _, _, rfl⟩ := h1; rfl
      · obtain ⟨_, _, _, rfl⟩ := h1; rfl
      · obtain ⟨_, _, _, _, _, _, rfl⟩ := h1; rfl
      · obtain ⟨_, _, rfl, _⟩ := h1; rfl
      · obtain ⟨_, rfl, _⟩ := h1; rfl
    · exact onesV_ok hb2 h2 y hy

/-- What is appended. -/
def srcData (s : St) (sz : Nat) : V → Option (List (List D))
  | .d (.v (.slice none 0 0)) => some []
  | .d (.v (.string b)) => bif Nat.beq sz 1 then some (bytesE b) else none
  | v => match slData s v with
    | some (sz', els) => bif Nat.beq sz sz' then some els else none
    | none => none

def sappend (P : Program) (t1 t2 : TypeId) (s : St) (x y : V) (K : V → St → Prop) : Prop :=
  optK (slInfoD P t1) fun i => bif srcT P t2 && Nat.blt 0 i.by_ then optK (srcData s i.sz y) fun ys =>
    match x with
    | .d (.v (.slice none 0 0)) => ys.length * i.by_ ≤ 70368744177664 ∧ K (.own s.nx) (s.new (.own i.e i.sz ys))
    | .own n => match s.get n with
      | some (.own T sz els) => bif Nat.beq T i.e && Nat.beq sz i.sz then (els.length + ys.length) * i.by_ ≤ 70368744177664 ∧ K (.own s.nx) ((s.del n).new (.own i.e i.sz (els ++ ys))) else False
      | _ => False
    | _ => False else False

/-- What is kept in a map as it is. -/
def mapV : V → Bool
  | .agg l => !(Nat.beq l.length 1)
  | .d _ => true
  | _ => false

/-- Slices that are looked at alone get names of their own. -/
def nameK : List V → St → (List V → St → Prop) → Prop
  | [], s, K => K [] s
  | v :: l, s, K => match v with
    | .d (.ro sz els) => nameK l (s.new (.fro sz els)) fun l' s' => K (.own s.nx :: l') s'
    | v => nameK l s fun l' s' => K (v :: l') s'

def se (P : Program) (H : Hnd) (o : Oper) (ρ : SEnv) (s : St) (K : V → St → Prop) : Prop :=
  match o.op with
  | .alloc e => optK (zeroS P e) fun z => bif notTop (toV z) then K (.nm s.nx 0) (s.new (.cells (toV z).cl e)) else False
  | .box e x => bif notTop (sev ρ x) then nameK (sev ρ x).cl s fun vs s => K (.nm s.nx 0) (s.new (.cells vs e)) else False
  | .buildSlice t len ps => optK (slInfoD P t) fun i => bif Nat.ble (len * i.sz) 16777216 then match fillE P i.e i.sz s (sparts ρ ps.toList) (List.replicate len i.z) with
    | some (els, s') => K (.own s'.nx) (s'.new (.own i.e i.sz els))
    | none => False else False
  | .makeMap _ none => K (.mp s.nx) (s.new (.map []))
  | .makeSlice t l c => match sev ρ l, sev ρ c with
    | .d (.v (.int _ l)), .d (.v (.int _ c)) => optK (slInfoD P t) fun i => (0 ≤ l ∧ l ≤ c ∧ c ≤ 9223372036854775807 ∧ (i.by_ : Int) * c ≤ 2 ^ 48) ∧ K (.own s.nx) (s.new (.own i.e i.sz (List.replicate l.toNat i.z)))
    | _, _ => False
  | .store t x v => match sev ρ x with
    | .nm n off => bif notTop (sev ρ v) then nameK (sev ρ v).cl s fun us s => match s.get n with
      | some (.cells vs T) => optK (sizeA P t) fun m => bif Nat.beq us.length m && Nat.ble (off + m) vs.length && onesV us then
          K (.tup []) (s.set n (.cells (vs.take off ++ (us ++ vs.drop (off + m))) T)) else False
      | _ => False
      else False
    | .el n sz i f => match elD P s t (sev ρ v) with
      | some (ds, s') => match s'.get n with
        | some (.own T sz' els) => optK (sizeA P t) fun m => bif Nat.beq sz sz' && Nat.beq ds.length m && Nat.ble (f + m) sz then i < els.length ∧ K (.tup []) (s'.set n (.own T sz (elSet els i f ds))) else False
        | _ => False
      | none => False
    | _ => False
  | .slice t x lo hi none => match sev ρ x with
    | .own n => match s.get n with
      | some (.own T sz els) => optK (slElem P t) fun sz' => bif Nat.beq sz sz' then bndN (bndS ρ lo) (bndS ρ hi) fun l h => match l, h with
        | none, none => K (.own n) s
        | none, some h => (0 ≤ h ∧ h ≤ els.length) ∧ K (.own s.nx) ((s.del n).new (.own T sz (els.take h.toNat)))
        | some l, h => roSl sz els (some l) h fun v => K v (s.set n (.fro sz els)) else False
      | some (.fro sz els) => optK (slElem P t) fun sz' => bif Nat.beq sz sz' then bndN (bndS ρ lo) (bndS ρ hi) fun l h => roSl sz els l h fun v => K v s else False
      | _ => False
    | _ => False
  | .mapUpdate t x i v => match sev ρ x with
    | .mp n => optK (mapT P t) fun ke => optK (leaf (sev ρ i)) fun kv => bif keyS P ke.1 kv && mapV (sev ρ v) then (match elD P s ke.2 (sev ρ v) with
      | some (ds, s') => (match s'.get n with
        | some (.map es) => AllLike kv es ∧ K (.tup []) (s'.set n (.map (mput kv ds es)))
        | _ => False)
      | none => False) else False
    | _ => False
  | .range t x => match sev ρ x with
    | .d (.v (.string b)) => bif isStrT P t then K (.nm s.nx 0) (s.new (.iter b 0)) else False
    | _ => False
  | .next x true => match sev ρ x with
    | .nm n 0 => match s.get n with
      | some (.iter b pos) => cnd (Nat.blt pos b.size)
          (K (.tup [.d (.v (.bool true)), .d (.v (.int .i64 (pos : Nat))), .d (.v (.int .i32 (Utf8.decode b pos).1))]) (s.set n (.iter b (pos + (Utf8.decode b pos).2))))
          (K (.tup [.d (.v (.bool false))]) s)
      | _ => False
    | _ => False
  | .call c => match c.callee with
    | .value x => match sev ρ x with
      | .fn f a b => H f (a ++ (evs ρ c.args.toList ++ b)) s K
      | _ => False
    | .builtin .append => match c.argTypes.toList with
      | [t1, t2] => match evs ρ c.args.toList with
        | [x, y] => sappend P t1 t2 s x y K
        | _ => False
      | _ => False
    | .builtin .delete => match evs ρ c.args.toList with
      | [.mp n, y] => optK c.argTypes[0]? fun t => optK (mapT P t) fun ke => optK (leaf y) fun kv => bif keyS P ke.1 kv then (match s.get n with
        | some (.map es) => AllLike kv es ∧ K (.tup []) (s.set n (.map (mdel kv es)))
        | _ => False) else False
      | _ => False
    | _ => False
  | _ => False

theorem run_setObj {P : Program} {w : World} {r : Nat} {O O' : Obj} (h : w.heap[r]? = some O') (hO : match O' with | .cells _ _ _ => False | _ => True) : (setObj r O).run P w = .ok () (World.setB w r O) := by
  simp only [setObj, Sem.run, h]
  cases O' <;> first | exact hO.elim | rfl

theorem flat_elSet {sz : Nat} : ∀ {els : List (List D)} (i f : Nat) (ds : List D), (∀ el ∈ els, el.length = sz) → i < els.length → f + ds.length ≤ sz →
    (elSet els i f ds).flatten = splG els.flatten (i * sz + f) ds ∧ ∀ el ∈ elSet els i f ds, el.length = sz
  | [], i, f, ds, _, h, _ => by simp at h
  | el :: els, 0, f, ds, hu, h, hd => by
    have e1 := hu el List.mem_cons_self
    constructor
    · simp only [elSet, List.modify_zero_cons, List.flatten_cons, splG, Nat.zero_mul, Nat.zero_add]
      rw [List.take_append_of_le_length (by omega), List.drop_append_of_le_length (by omega)]
      simp
    · intro e he
      simp only [elSet, List.modify_zero_cons, List.mem_cons] at he
      rcases he with rfl | he
      · simp only [List.length_append, List.length_take, List.length_drop]; omega
      · exact hu e (List.mem_cons_of_mem _ he)
  | el :: els, i + 1, f, ds, hu, h, hd => by
    have e1 := hu el List.mem_cons_self
    obtain ⟨ih1, ih2⟩ := flat_elSet (els := els) i f ds (fun e he => hu e (List.mem_cons_of_mem _ he)) (by simpa using h) hd
    constructor
    · simp only [elSet, List.modify_succ_cons, List.flatten_cons, splG] at ih1 ⊢
      rw [ih1, Nat.succ_mul, List.take_append, List.drop_append, e1]
      rw [List.take_of_length_le (show el.length ≤ i * sz + sz + f by omega), show i * sz + sz + f - sz = i * sz + f by omega, List.drop_eq_nil_of_le (show el.length ≤ i * sz + sz + f + ds.length by omega), show i * sz + sz + f + ds.length - sz = i * sz + f + ds.length by omega]
      simp
    · intro e he
      simp only [elSet, List.modify_succ_cons, List.mem_cons] at he ih2
      rcases he with rfl | he
      · exact e1
      · exact ih2 e he

theorem run_storeVar {P : Program} {w : World} {t b o n : Nat} {v : Value} {l vs : List Value} {T : TypeId} (hz : sizeA P t = some n) (hc : v.cells = vs.toArray) (hn : vs.length = n) (ho : o + n ≤ l.length) (h1 : ∀ y ∈ vs, y.oneC = true)
    (hb : w.heap[b]? = some (.cells l.toArray T)) : RunsU P (storeVar t ⟨b, o, none⟩ v) w (World.setB w b (.cells (spl l o vs).toArray T)) := by
  unfold sizeA at hz
  split at hz <;> first | (cases hz; done) | skip
  rename_i i hi
  cases hz
  unfold RunsU storeVar
  have := run_storeCells (P := P) vs 0 o l w hb (by omega) h1
  simp only [Nat.add_zero] at this
  simp only [bind, run_bind, run_sizeOf hi, hc, List.size_toArray, hn]
  simpa using this

end Sx
