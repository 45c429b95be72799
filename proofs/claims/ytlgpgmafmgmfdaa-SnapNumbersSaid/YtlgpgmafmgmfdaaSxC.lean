/- A symbolic walk, third part: operations that look at no memory. No condition. -/
import Derived.Test.YtlgpgmafmgmfdaaSxN
set_option linter.unusedSimpArgs false
set_option linter.unusedVariables false
namespace Sx
open Go Go.RowKit Cv

def V.cl : V → List V
  | .agg l => l
  | v => [v]

def partS (P : Program) (t : TypeId) (cs : List V) (off : Nat) : Option V :=
  match aggS P t with
  | some sz => some (.agg ((cs.drop off).take sz))
  | none => bif scal P t then cs[off]? else none

def optK {α : Type} (x : Option α) (K : α → Prop) : Prop :=
  match x with
  | some v => K v
  | none => False

theorem optK_out {α : Type} {x : Option α} {K : α → Prop} (h : optK x K) : ∃ v, x = some v ∧ K v := by
  cases x with
  | none => exact h.elim
  | some v => exact ⟨v, rfl, h⟩

theorem partS_sound {P : Program} {E : Ev} {t : TypeId} {cs : List V} {ys : List Value} {off : Nat} {v : V} (hr : VRL E cs ys) (h : partS P t cs off = some v) : ∃ y, VR E v y ∧ ∀ w, (part t ys.toArray off).run P w = .ok y w := by
  unfold partS at h
  split at h
  · rename_i sz hs
    simp only [Option.some.injEq] at h
    subst h
    refine ⟨.agg ((ys.drop off).take sz).toArray, ?_, fun w => ?_⟩
    · simp only [VR]; exact ⟨_, rfl, (hr.drop off).take sz⟩
    obtain ⟨h1, h2⟩ := run_isAgg_agg hs w
    unfold part
    simp only [bind, run_bind, h1, h2, if_true, pure, Sem.run]
    congr 3
    simp [List.extract_eq_take_drop]
  · rename_i hs
    obtain ⟨hb, h⟩ := cond_some h
    obtain ⟨y, h1, h2⟩ := hr.get h
    refine ⟨y, h2, fun w => ?_⟩
    unfold part
    have : ys.toArray[off]? = some y := by simp [h1]
    simp only [bind, run_bind, run_isAgg_scal hb w, Bool.false_eq_true, if_false, this]
    rfl

/-! ### Filling in parts -/
def fillS (place : Nat → Option (Nat × Nat)) : List (Nat × V) → List V → Option (List V)
  | [], cs => some cs
  | (i, v) :: rest, cs =>
    match place i with
    | none => none
    | some (off, size) => bif Nat.beq v.cl.length size && Nat.ble (off + size) cs.length then fillS place rest (cs.take off ++ (v.cl ++ cs.drop (off + size))) else none

def PRL (E : Ev) : List (Nat × V) → List (Nat × Value) → Prop
  | [], l => l = []
  | (i, v) :: ps, l => ∃ y ys, l = (i, y) :: ys ∧ VR E v y ∧ PRL E ps ys

def notTop : V → Bool
  | .top => false
  | _ => true

theorem VR.cells {E : Ev} {v : V} {y : Value} (ht : notTop v = true) (h : VR E v y) : ∃ l, y.cells = l.toArray ∧ VRL E v.cl l := by
  cases v
  case agg l => simp only [VR] at h; obtain ⟨ys, rfl, h⟩ := h; exact ⟨ys, rfl, h⟩
  case top => cases ht
  case d x =>
    have h0 := h
    simp only [VR] at h
    refine ⟨[y], ?_, VRL.one h0⟩
    cases x with
    | v x => simp only [DR] at h; obtain ⟨rfl, h⟩ := h; cases y <;> first | rfl | cases h
    | ro sz els => simp only [DR] at h; obtain ⟨a, c, rfl, _⟩ := h; rfl
  case nm n o => have h0 := h; simp only [VR] at h; obtain ⟨b, oo, l, h1, rfl⟩ := h; exact ⟨[_], rfl, VRL.one h0⟩
  case el n sz i f => have h0 := h; simp only [VR] at h; obtain ⟨b, oo, m, c, l, h1, rfl⟩ := h; exact ⟨[_], rfl, VRL.one h0⟩
  case re sz els i f => have h0 := h; simp only [VR] at h; obtain ⟨_, _, b, o, l, T, fr, rfl, _⟩ := h; exact ⟨[_], rfl, VRL.one h0⟩
  case own n => have h0 := h; simp only [VR] at h; obtain ⟨l, h1, a, m, c, rfl⟩ := h; exact ⟨[_], rfl, VRL.one h0⟩
  case mp n => have h0 := h; simp only [VR] at h; obtain ⟨b, l, h1, rfl⟩ := h; exact ⟨[_], rfl, VRL.one h0⟩
  case sub n i => have h0 := h; simp only [VR] at h; obtain ⟨hd, l, b, oo, h1, h2, rfl⟩ := h; exact ⟨[_], rfl, VRL.one h0⟩
  case tup l => have h0 := h; simp only [VR] at h; obtain ⟨ys, rfl, h⟩ := h; exact ⟨[_], rfl, VRL.one h0⟩
  case fn f a b => have h0 := h; simp only [VR] at h; obtain ⟨as, bs, rfl, h⟩ := h; exact ⟨[_], rfl, VRL.one h0⟩
  case ifc t x => have h0 := h; simp only [VR] at h; obtain ⟨z, rfl, h⟩ := h; exact ⟨[_], rfl, VRL.one h0⟩

def topsL : List (Nat × V) → Bool
  | [] => true
  | p :: l => bif notTop p.2 then topsL l else false

theorem fillS_sound {E : Ev} {place : Nat → Option (Nat × Nat)} : ∀ {ps : List (Nat × V)} {cs r : List V} {qs : List (Nat × Value)} {ys : List Value}, topsL ps = true → fillS place ps cs = some r → PRL E ps qs → VRL E cs ys →
    ∃ zs, Instr.fill place ys.toArray qs = some zs.toArray ∧ VRL E r zs
  | [], cs, r, qs, ys, _, h, hp, hc => by
    simp only [fillS, Option.some.injEq] at h
    simp only [PRL] at hp
    subst h hp
    exact ⟨ys, rfl, hc⟩
  | (i, v) :: ps, cs, r, qs, ys, ht, h, hp, hc => by
    simp only [fillS] at h
    simp only [PRL] at hp
    obtain ⟨y, qs, rfl, hv, hp⟩ := hp
    simp only [topsL] at ht
    cases hnt : notTop v <;> rw [hnt] at ht <;> simp only [cond_false, cond_true, Bool.false_eq_true] at ht
    obtain ⟨l, hl, hvl⟩ := VR.cells hnt hv
    split at h <;> first | (cases h; done) | skip
    rename_i off size hpl
    obtain ⟨hb, h⟩ := cond_some h
    simp only [Bool.and_eq_true] at hb
    have h1 := Nat.eq_of_beq_eq_true hb.1
    have h2 := Nat.le_of_ble_eq_true hb.2
    have e1 := hvl.length
    have e2 := hc.length
    have hsz : y.cells.size = size := by rw [hl, List.size_toArray, e1, h1]
    have hbb : (decide (y.cells.size ≠ size) || decide (off + y.cells.size > ys.toArray.size)) = false := by
      rw [hsz, List.size_toArray]
      simp; omega
    have hc' : VRL E (cs.take off ++ (v.cl ++ cs.drop (off + size))) (ys.take off ++ (l ++ ys.drop (off + size))) := (hc.take off).append (hvl.append (hc.drop _))
    obtain ⟨zs, q1, q2⟩ := fillS_sound ht h hp hc'
    refine ⟨zs, ?_, q2⟩
    simp only [Instr.fill, hpl]
    have hfold : y.cells.zipIdx.foldl (fun (cs : Array Value) (p : Value × Nat) => cs.setIfInBounds (off + p.2) p.1) ys.toArray = (ys.take off ++ (l ++ ys.drop (off + size))).toArray := by
      have hz : l.toArray.zipIdx = (l.zipIdx).toArray := by
        apply Array.ext'
        simp
      rw [hl, hz, List.foldl_toArray]
      rw [fold_spl (off := off) l 0 ys (by omega)]
      simp only [spl, Nat.add_zero, e1, h1, List.append_assoc]
    rw [if_neg (by rw [hbb]; simp), hfold]
    exact q1

def zeroS (P : Program) (t : TypeId) : Option Value :=
  match P.info? t with
  | some i => i.zero
  | none => none

def sbuild (P : Program) (t : TypeId) (ps : List (Nat × V)) : Option V :=
  match zeroS P t with
  | some z => bif notTop (toV z) && topsL ps then (match places P t with
    | some pl => match allS pl with
      | some _ => match fillS (placeAt pl) ps (toV z).cl with
        | some cs => some (.agg cs)
        | none => none
      | none => none
    | none => match arrPart P t with
      | some (_, _, sz) => match fillS (fun i => some (i * sz, sz)) ps (toV z).cl with
        | some cs => some (.agg cs)
        | none => none
      | none => none) else none
  | none => none

theorem zeroS_some {P : Program} {t : TypeId} {z : Value} (h : zeroS P t = some z) : zero? P t = some z := by
  unfold zeroS at h
  unfold zero?
  split at h
  · rename_i i hi; rw [hi]; exact h
  · cases h

theorem sbuild_sound {P : Program} {E : Ev} {t : TypeId} {ps : List (Nat × V)} {qs : List (Nat × Value)} {v : V} (hp : PRL E ps qs) (h : sbuild P t ps = some v) :
    ∃ y, VR E v y ∧ ∀ w, (Instr.build t qs.toArray).run P w = .ok y w := by
  unfold sbuild at h
  split at h <;> first | (cases h; done) | skip
  rename_i z hz
  have hzr := fun w => zero_run (zeroS_some hz) w
  obtain ⟨hb, h⟩ := cond_some h
  simp only [Bool.and_eq_true] at hb
  obtain ⟨zl, hzl, hzv⟩ := VR.cells (E := E) hb.1 (toV_ok E z)
  split at h
  · rename_i pl hpl
    split at h <;> first | (cases h; done) | skip
    rename_i L hL
    split at h <;> first | (cases h; done) | skip
    rename_i cs hcs
    simp only [Option.some.injEq] at h
    subst h
    have hpl' := allS_some hL
    subst hpl'
    unfold places at hpl
    split at hpl <;> first | (cases hpl; done) | skip
    rename_i fs hfs
    simp only [Option.some.injEq] at hpl
    have hpa : (fun i => L.toArray[i]?) = placeAt (L.map some) := by
      funext i
      unfold placeAt
      simp only [List.getElem?_toArray, List.getElem?_map]
      cases L[i]? <;> rfl
    obtain ⟨zs, hf, hzs⟩ := fillS_sound hb.2 hcs hp hzv
    refine ⟨.agg zs.toArray, by simp only [VR]; exact ⟨zs, rfl, hzs⟩, fun w => ?_⟩
    have hm := run_places w hpl
    have hmA : ((fs.mapM fun f => (do pure (f.offset, ← Go.sizeOf f.type) : Sem (Nat × Nat))) : Sem (Array (Nat × Nat))).run P w = .ok L.toArray w := by
      rw [Array.mapM_eq_mapM_toList, map_eq_pure_bind]
      simp only [bind, pure, run_bind] at hm ⊢
      rw [hm]
      rfl
    unfold Instr.build
    simp only [bind] at hmA
    simp only [bind, run_bind, hzr, Cv.run_underlying hfs, hmA, hzl, hpa, hf]
    rfl
  · split at h <;> first | (cases h; done) | skip
    rename_i n e sz hap
    split at h <;> first | (cases h; done) | skip
    rename_i cs hcs
    simp only [Option.some.injEq] at h
    subst h
    obtain ⟨i, h1, h2, rfl⟩ := arrPart_some hap
    obtain ⟨zs, hf, hzs⟩ := fillS_sound hb.2 hcs hp hzv
    refine ⟨.agg zs.toArray, by simp only [VR]; exact ⟨zs, rfl, hzs⟩, fun w => ?_⟩
    unfold Instr.build
    simp only [bind, run_bind, hzr, Cv.run_underlying h1, run_sizeOf h2, hzl, hf]
    rfl

def sparts (ρ : SEnv) : List (Nat × Operand) → List (Nat × V)
  | [] => []
  | (i, x) :: l => (i, sev ρ x) :: sparts ρ l

theorem sparts_ok {E : Ev} {ρS : SEnv} {ρ : Env} (h : EnvR E ρS ρ) : ∀ (l : List (Nat × Operand)), PRL E (sparts ρS l) (l.map fun p => (p.1, ev ρ p.2))
  | [] => by simp [sparts, PRL]
  | (i, x) :: l => by simp only [sparts, List.map_cons, PRL]; exact ⟨_, _, rfl, h.ev x, sparts_ok h l⟩

def isIfcT (P : Program) (t : TypeId) : Bool :=
  match P.underlying t with
  | some (.interface _) => true
  | none => true
  | _ => false

/-- A pointer that is none. -/
def ptrV : V → Bool
  | .nm _ _ => true
  | .el _ _ _ _ => true
  | .re _ _ _ _ => true
  | .sub _ _ => true
  | _ => false

theorem ptrV_ok {E : Ev} {v : V} {y : Value} (hp : ptrV v = true) (h : VR E v y) : ∃ a, y = .pointer (some a) := by
  cases v <;> simp only [ptrV, Bool.false_eq_true] at hp <;> simp only [VR] at h
  · obtain ⟨b, oo, l, h1, rfl⟩ := h; exact ⟨_, rfl⟩
  · obtain ⟨b, oo, m, c, l, h1, rfl⟩ := h; exact ⟨_, rfl⟩
  · obtain ⟨_, _, b, o, l, T, fr, rfl, _⟩ := h; exact ⟨_, rfl⟩
  · obtain ⟨hd, l, b, oo, h1, h2, rfl⟩ := h; exact ⟨_, rfl⟩

def bndS (ρ : SEnv) : Option Operand → Option (Option Int)
  | none => some none
  | some x => match sev ρ x with
    | .d (.v (.int _ n)) => some (some n)
    | _ => none

def roSl (sz : Nat) (els : List (List D)) (lo hi : Option Int) (K : V → Prop) : Prop :=
  match lo, hi with
  | none, none => K (.d (.ro sz els))
  | some l, none => (0 ≤ l ∧ l ≤ els.length) ∧ K (.d (.ro sz (els.drop l.toNat)))
  | none, some h => (0 ≤ h ∧ h ≤ els.length) ∧ K (.d (.ro sz (els.take h.toNat)))
  | some l, some h => (0 ≤ l ∧ l ≤ h ∧ h ≤ els.length) ∧ K (.d (.ro sz ((els.take h.toNat).drop l.toNat)))

def nilSlC : Operand → Bool
  | .const (.slice none 0 0) => true
  | _ => false

/-- Whether a slice is nil is known only where it has elements. -/
def nilAsk (op : BinOp) (els : List (List D)) (K : V → Prop) : Prop :=
  ∀ b : Bool, (b = true → els = []) → match op with
    | .eql => K (.d (.v (.bool b)))
    | .neq => K (.d (.v (.bool !b)))
    | _ => False

/-- Leaves alone. -/
def sqL (P : Program) (o : Oper) (ρ : SEnv) (K : V → Prop) : Prop :=
  bif plainOp o.op then (bif lfys ρ o.op.operands.toList then pval P o (lenv ρ) (fun x => K (toV x)) else False) else False

def sq (P : Program) (o : Oper) (ρ : SEnv) (K : V → Prop) : Prop :=
  match o.op with
  | .move x => K (sev ρ x)
  | .assign x => K (sev ρ x)
  | .pick c a b => match sev ρ c with
    | .d (.v (.bool t)) => cnd t (K (sev ρ a)) (K (sev ρ b))
    | _ => False
  | .nilCheck x => bif ptrV (sev ρ x) then K (sev ρ x) else sqL P o ρ K
  | .fieldAddr s x f => optK (fieldOff P s f) fun off => match sev ρ x with
    | .nm n o => K (.nm n (o + off))
    | .el n sz i g => K (.el n sz i (g + off))
    | .re sz els i g => K (.re sz els i (g + off))
    | _ => False
  | .indexAddr t x i => match sev ρ i with
    | .d (.v (.int _ i)) => match sev ρ x with
      | .d (.ro sz els) => optK (slElem P t) fun sz' => bif Nat.beq sz sz' then (0 ≤ i ∧ i < els.length) ∧ K (.re sz els i.toNat 0) else False
      | .nm n o => optK (arrElem P t) fun ns => optK (idxOk i ns.1) fun j => K (.nm n (o + j * ns.2))
      | .el n sz k g => optK (arrElem P t) fun ns => optK (idxOk i ns.1) fun j => K (.el n sz k (g + j * ns.2))
      | .re sz els k g => optK (arrElem P t) fun ns => optK (idxOk i ns.1) fun j => K (.re sz els k (g + j * ns.2))
      | _ => False
    | _ => False
  | .index t x i => match sev ρ x with
    | .agg cs => match sev ρ i with
      | .d (.v (.int _ i)) => optK (arrPart P t) fun ns => optK (idxOk i ns.1) fun j => optK (partS P ns.2.1 cs (j * ns.2.2)) K
      | _ => False
    | _ => sqL P o ρ K
  | .field t x f => match sev ρ x with
    | .agg cs => optK (fieldPart P t f) fun fo => optK (partS P fo.1 cs fo.2) K
    | _ => False
  | .extract x i => match sev ρ x with
    | .tup l => optK l[i]? K
    | _ => False
  | .build t ps => optK (sbuild P t (sparts ρ ps.toList)) K
  | .makeFunc (.func f) a b => K (.fn f (evs ρ a.toList) (evs ρ b.toList))
  | .makeInterface t x => bif isIfcT P t then False else K (.ifc t (sev ρ x))
  | .binOp op t x y _ => bif ptrV (sev ρ x) && isPtrT P t && isNilC y then (match op with
      | .eql => K (.d (.v (.bool false)))
      | .neq => K (.d (.v (.bool true)))
      | _ => False) else bif nilSlC y && isSlT P t then (match sev ρ x with
        | .d (.ro _ els) => nilAsk op els K
        | _ => sqL P o ρ K) else match leaf (sev ρ x) with
      | some (.agg xs) => match leaf (sev ρ y) with
        | some (.agg ys) => bif P.eqGuardType P.depth t then False else optK (aggEq P t xs.toList ys.toList) fun b => match op with
          | .eql => K (.d (.v (.bool b)))
          | .neq => K (.d (.v (.bool !b)))
          | _ => False
        | _ => False
      | _ => sqL P o ρ K
  | .call c => match c.callee with
    | .builtin .len => match evs ρ c.args.toList with
      | [.d (.ro _ els)] => optK c.argTypes[0]? fun t => bif isSlT P t then K (.d (.v (.int .i64 els.length))) else False
      | _ => sqL P o ρ K
    | _ => sqL P o ρ K
  | .slice t x lo hi none => match sev ρ x with
    | .d (.ro sz els) => optK (slElem P t) fun sz' => bif Nat.beq sz sz' then bndN (bndS ρ lo) (bndS ρ hi) fun l h => roSl sz els l h K else False
    | _ => sqL P o ρ K
  | .unOp _ _ _ => sqL P o ρ K
  | .convert _ _ _ => sqL P o ρ K
  | _ => False

theorem bif_out2 {b : Bool} {A B : Prop} (h : bif b then A else B) : (b = true ∧ A) ∨ (b = false ∧ B) := by
  cases b
  · exact .inr ⟨rfl, h⟩
  · exact .inl ⟨rfl, h⟩

theorem cnd_out {b : Bool} {A B : Prop} (h : cnd b A B) : (b = true ∧ A) ∨ (b = false ∧ B) := by
  cases b
  · exact .inr ⟨rfl, h⟩
  · exact .inl ⟨rfl, h⟩

def SqOk (P : Program) (E : Ev) (o : Oper) (ρ : Env) (K : V → Prop) : Prop := ∃ v y, K v ∧ VR E v y ∧ Free P (execOp (ev ρ) o) y

theorem sqL_sound {P : Program} {E : Ev} {ρS : SEnv} {ρ : Env} (he : EnvR E ρS ρ) {o : Oper} {K : V → Prop} (h : sqL P o ρS K) : SqOk P E o ρ K := by
  unfold sqL at h
  obtain ⟨hp, h⟩ := bif_out h
  obtain ⟨hl, h⟩ := bif_out h
  obtain ⟨y, hk, hf⟩ := pval_sound h
  exact ⟨_, y, hk, toV_ok E y, by rw [← exec_leaf hp (lfys_ev he hl)]; exact hf⟩

theorem VR.intv {E : Ev} {k : IntKind} {i : Int} {y : Value} (h : VR E (.d (.v (.int k i))) y) : y = .int k i := by
  simp only [VR, DR] at h; exact h.1

theorem leaf_mk {E : Ev} {x : Value} (h : x.oneC = true) : VR E (.d (.v x)) x := by
  simp only [VR, DR]; exact ⟨trivial, h⟩

theorem bndS_some {E : Ev} {ρS : SEnv} {ρ : Env} (he : EnvR E ρS ρ) {x : Option Operand} {r : Option Int} (h : bndS ρS x = some r) : bnd ρ x = some r := by
  cases x with
  | none => exact h
  | some x =>
    simp only [bndS] at h
    split at h <;> first | (cases h; done) | skip
    rename_i k n hx
    have := he.ev x
    rw [hx] at this
    simp only [bnd, this.intv]
    exact h

theorem DR.ro_sl {F : PH} {sz lo hi : Nat} {els : List (List D)} {a : Option Addr} {c : Nat} (h : DR F (.ro sz els) (.slice a els.length c)) (h1 : lo ≤ hi) (h2 : hi ≤ els.length) :
    DR F (.ro sz ((els.take hi).drop lo)) (.slice (if c = lo then a else a.map (·.add (lo * sz))) (hi - lo) (c - lo)) := by
  simp only [DR] at h ⊢
  obtain ⟨a', c', e, hc, hs, hm⟩ := h
  cases e
  have hlen : ((els.take hi).drop lo).length = hi - lo := by rw [List.length_drop, List.length_take]; omega
  refine ⟨_, c - lo, by rw [hlen], by rw [hlen]; omega, fun el hel => hs el (List.mem_of_mem_take (List.mem_of_mem_drop hel)), ?_⟩
  by_cases h0 : lo = hi
  · left
    exact List.eq_nil_of_length_eq_zero (by omega)
  · right
    rcases hm with hm | ⟨b, o, l, T, fr, rfl, h4, h5⟩
    · subst hm; simp at h2; omega
    · refine ⟨b, o + lo * sz, l, T, fr, ?_, h4, ?_⟩
      · rw [if_neg (by omega)]; simp [add_mk]
      · obtain ⟨xs, r, e, hx⟩ := DRS_iff.1 h5
        refine DRS_iff.2 ⟨(xs.drop (lo * sz)).take ((hi - lo) * sz), (xs.drop (lo * sz)).drop ((hi - lo) * sz) ++ r, ?_, ?_⟩
        · rw [← List.append_assoc, List.take_append_drop, ← List.drop_drop, e, List.drop_append_of_le_length]
          rw [hx.length, flat_len hs]
          exact Nat.mul_le_mul_right _ (by omega)
        · have := (hx.drop (lo * sz)).take ((hi - lo) * sz)
          rw [flat_drop lo hs, flat_take (hi - lo) (fun el hel => hs el (List.mem_of_mem_drop hel)), List.take_drop] at this
          rw [show lo + (hi - lo) = hi by omega] at this
          exact this

theorem DR.ro_cut {F : PH} {sz : Nat} {els : List (List D)} {y : Value} (h : DR F (.ro sz els) y) {lo hi : Option Int} {K : V → Prop} (hk : roSl sz els lo hi K) :
    ∃ a c v, y = .slice a els.length c ∧ K v ∧ slN a els.length c lo hi sz fun p n c => ∀ E : Ev, E.F = F → VR E v (.slice p n c) := by
  have h0 := h
  simp only [DR] at h0
  obtain ⟨a, c, rfl, hc, _⟩ := h0
  unfold roSl at hk
  split at hk
  · exact ⟨a, c, _, rfl, hk, by simp only [slN]; exact ⟨hc, fun E hE => by subst hE; simpa only [VR] using h⟩⟩
  · rename_i l
    obtain ⟨⟨h1, h2⟩, hk⟩ := hk
    refine ⟨a, c, _, rfl, hk, ?_⟩
    simp only [slN]
    refine ⟨⟨h1, h2, hc⟩, fun E hE => ?_⟩
    subst hE
    have := h.ro_sl (lo := l.toNat) (hi := els.length) (by omega) (Nat.le_refl _)
    rw [List.take_of_length_le (Nat.le_refl _)] at this
    simpa only [VR] using this
  · rename_i u
    obtain ⟨⟨h1, h2⟩, hk⟩ := hk
    refine ⟨a, c, _, rfl, hk, ?_⟩
    simp only [slN]
    refine ⟨⟨h1, by omega⟩, fun E hE => ?_⟩
    subst hE
    have := h.ro_sl (lo := 0) (hi := u.toNat) (by omega) (by omega)
    simp only [Nat.zero_mul, map_add_zero, ite_self, Nat.sub_zero, List.drop_zero] at this
    simpa only [VR] using this
  · rename_i l u
    obtain ⟨⟨h1, h2, h3⟩, hk⟩ := hk
    refine ⟨a, c, _, rfl, hk, ?_⟩
    simp only [slN]
    refine ⟨⟨h1, h2, by omega⟩, fun E hE => ?_⟩
    subst hE
    have := h.ro_sl (lo := l.toNat) (hi := u.toNat) (by omega) (by omega)
    simpa only [VR] using this

theorem slN_mono {p : Option Addr} {n c : Nat} {lo hi : Option Int} {sz : Nat} {K K' : Option Addr → Nat → Nat → Prop} (h : ∀ p n c, K p n c → K' p n c) (hk : slN p n c lo hi sz K) : slN p n c lo hi sz K' := by
  unfold slN at *
  cases lo <;> cases hi <;> exact ⟨hk.1, h _ _ _ hk.2⟩

theorem isPtrT_nil {P : Program} {t : TypeId} (h : isPtrT P t = true) (a : Addr) : nilEq P t (.pointer (some a)) = some false := by
  obtain ⟨e, he⟩ := isPtrT_some h
  unfold nilEq; rw [he]; rfl

theorem isNilC_eq {y : Operand} (h : isNilC y = true) : y = .const (.pointer none) := by
  unfold isNilC at h; split at h
  · rfl
  · cases h

theorem nilAsk_run {P : Program} {E : Ev} {ρ : Env} {o : Oper} {op : BinOp} {t u : TypeId} {x y : Operand} {els : List (List D)} {K : V → Prop} {a : Option Addr} {n c : Nat} (ho : o.op = .binOp op t x y u) (hy : nilSlC y = true) (ht : isSlT P t = true)
    (hx : ev ρ x = .slice a n c) (ha : a = none → els = []) (h : nilAsk op els K) : SqOk P E o ρ K := by
  have hy' : y = .const (.slice none 0 0) := by
    unfold nilSlC at hy; split at hy
    · rfl
    · cases hy
  subst hy'
  obtain ⟨e, he⟩ := isSlT_some ht
  have hn : nilEq P t (.slice a n c) = some a.isNone := by unfold nilEq; rw [he]
  have hk := h a.isNone (fun hb => ha (by simpa using hb))
  split at hk <;> first | exact hk.elim | skip
  · refine ⟨_, .bool a.isNone, hk, leaf_mk rfl, ?_⟩
    have := run_binEq (P := P) (neg := false) (r := a.isNone) (ρ := ρ) ho (by rw [hx]; trivial) trivial (fun w => by rw [hx]; exact eqGuard_plain trivial w) (fun w => by rw [hx]; exact run_nilEq_slice hn w)
    simpa using this
  · refine ⟨_, .bool (!a.isNone), hk, leaf_mk rfl, ?_⟩
    have := run_binEq (P := P) (neg := true) (r := a.isNone) (ρ := ρ) ho (by rw [hx]; trivial) trivial (fun w => by rw [hx]; exact eqGuard_plain trivial w) (fun w => by rw [hx]; exact run_nilEq_slice hn w)
    simpa using this

theorem sq_sound {P : Program} {E : Ev} {ρS : SEnv} {ρ : Env} (he : EnvR E ρS ρ) {o : Oper} {K : V → Prop} (h : sq P o ρS K) : SqOk P E o ρ K := by
  cases ho : o.op
  case move x => simp only [sq, ho] at h; exact ⟨_, _, h, he.ev x, fun w => by simp only [execOp, ho]; rfl⟩
  case assign x => simp only [sq, ho] at h; exact ⟨_, _, h, he.ev x, fun w => by simp only [execOp, ho]; rfl⟩
  case pick c a b =>
    simp only [sq, ho] at h
    split at h <;> first | exact h.elim | skip
    rename_i t hc
    have hv := he.ev c
    rw [hc] at hv
    simp only [VR, DR] at hv
    rcases cnd_out h with ⟨rfl, h⟩ | ⟨rfl, h⟩
    · exact ⟨_, _, h, he.ev a, fun w => by simp only [execOp, ho, hv.1, asBool, bind, pure, Sem.bind, Sem.run]; rfl⟩
    · exact ⟨_, _, h, he.ev b, fun w => by simp only [execOp, ho, hv.1, asBool, bind, pure, Sem.bind, Sem.run]; rfl⟩
  case nilCheck x =>
    simp only [sq, ho] at h
    rcases bif_out2 h with ⟨hp, h⟩ | ⟨_, h⟩
    · obtain ⟨a, ha⟩ := ptrV_ok hp (he.ev x)
      exact ⟨_, _, h, he.ev x, fun w => by simp only [execOp, ho, ha]; rfl⟩
    · exact sqL_sound he h
  case fieldAddr s x f =>
    simp only [sq, ho] at h
    obtain ⟨off, hf, h⟩ := optK_out h
    obtain ⟨fs, fd, i, h1, h2, h3, h4, rfl⟩ := fieldOff_some hf
    have hv := he.ev x
    have run : ∀ b oo, ev ρ x = .pointer (some ⟨b, oo, none⟩) → Free P (execOp (ev ρ) o) (.pointer (some ⟨b, oo + fd.offset, none⟩)) := by
      intro b oo hx
      simp only [execOp, ho, hx]
      refine run_value fun w => ?_
      simp only [Instr.fieldAt, Instr.sureAddr, fieldPlace, bind, pure, run_bind, Sem.bind, Sem.run, Cv.run_underlying h1, h2, run_sizeOf h3, if_neg h4, add_mk]
    split at h <;> first | exact h.elim | skip
    · rename_i n o' hx
      rw [hx] at hv; simp only [VR] at hv
      obtain ⟨b, oo, l, e1, e2⟩ := hv
      exact ⟨_, _, h, by simp only [VR]; exact ⟨b, oo, l, e1, rfl⟩, by have := run _ _ e2; rw [Nat.add_assoc] at this; exact this⟩
    · rename_i n sz i g hx
      rw [hx] at hv; simp only [VR] at hv
      obtain ⟨b, oo, m, c, l, e1, e2⟩ := hv
      exact ⟨_, _, h, by simp only [VR]; exact ⟨b, oo, m, c, l, e1, rfl⟩, by have := run _ _ e2; rw [Nat.add_assoc _ g] at this; exact this⟩
    · rename_i sz els i g hx
      rw [hx] at hv; simp only [VR] at hv
      obtain ⟨e0, e1, b, oo, l, T, fr, e2, e3, e4⟩ := hv
      exact ⟨_, _, h, by simp only [VR]; exact ⟨e0, e1, b, oo, l, T, fr, rfl, e3, e4⟩, by have := run _ _ e2; rw [Nat.add_assoc _ g] at this; exact this⟩
  case indexAddr t x i =>
    simp only [sq, ho] at h
    split at h <;> first | exact h.elim | skip
    rename_i k i' hi
    have hiv := he.ev i
    rw [hi] at hiv
    have hiv := hiv.intv
    have hv := he.ev x
    have arr : ∀ {b oo : Nat} {ns : Nat × Nat} {j : Nat}, arrElem P t = some ns → idxOk i' ns.1 = some j → ev ρ x = .pointer (some ⟨b, oo, none⟩) → Free P (execOp (ev ρ) o) (.pointer (some ⟨b, oo + j * ns.2, none⟩)) := by
      intro b oo ns j hsz hj hx
      obtain ⟨rfl, hlt⟩ := idxOk_some hj
      simp only [execOp, ho, hx, hiv]
      refine run_value fun w => ?_
      rw [run_indexAt_array hsz ⟨by omega, by omega⟩, add_mk]
      simp
    split at h <;> first | exact h.elim | skip
    · rename_i sz els hx
      obtain ⟨sz', hs, h⟩ := optK_out h
      obtain ⟨hb, ⟨h0, h1⟩, hk⟩ := bif_out h
      have := Nat.eq_of_beq_eq_true hb
      subst this
      rw [hx] at hv; simp only [VR, DR] at hv
      obtain ⟨a, c, e1, e2, e3, e4⟩ := hv
      rcases e4 with e4 | ⟨b, oo, l, T, fr, rfl, e5, e6⟩
      · subst e4; simp at h1; omega
      refine ⟨_, .pointer (some ⟨b, oo + i'.toNat * sz, none⟩), hk, ?_, ?_⟩
      · simp only [VR]; exact ⟨by omega, e3, b, oo, l, T, fr, rfl, e5, e6⟩
      · simp only [execOp, ho, e1, hiv]
        refine run_value fun w => ?_
        rw [run_indexAt_slice hs ⟨h0, by omega⟩, add_mk]
    · rename_i n o' hx
      obtain ⟨ns, hs, h⟩ := optK_out h
      obtain ⟨j, hj, h⟩ := optK_out h
      rw [hx] at hv; simp only [VR] at hv
      obtain ⟨b, oo, l, e1, e2⟩ := hv
      exact ⟨_, _, h, by simp only [VR]; exact ⟨b, oo, l, e1, rfl⟩, by have := arr hs hj e2; rw [Nat.add_assoc] at this; exact this⟩
    · rename_i n sz i g hx
      obtain ⟨ns, hs, h⟩ := optK_out h
      obtain ⟨j, hj, h⟩ := optK_out h
      rw [hx] at hv; simp only [VR] at hv
      obtain ⟨b, oo, m, c, l, e1, e2⟩ := hv
      exact ⟨_, _, h, by simp only [VR]; exact ⟨b, oo, m, c, l, e1, rfl⟩, by have := arr hs hj e2; rw [Nat.add_assoc _ g] at this; exact this⟩
    · rename_i sz els i g hx
      obtain ⟨ns, hs, h⟩ := optK_out h
      obtain ⟨j, hj, h⟩ := optK_out h
      rw [hx] at hv; simp only [VR] at hv
      obtain ⟨e0, e1, b, oo, l, T, fr, e2, e3, e4⟩ := hv
      exact ⟨_, _, h, by simp only [VR]; exact ⟨e0, e1, b, oo, l, T, fr, rfl, e3, e4⟩, by have := arr hs hj e2; rw [Nat.add_assoc _ g] at this; exact this⟩
  case index t x i =>
    simp only [sq, ho] at h
    split at h
    · rename_i cs hx
      split at h <;> first | exact h.elim | skip
      rename_i k i' hi
      obtain ⟨⟨n, e, sz⟩, hs, h⟩ := optK_out h
      obtain ⟨j, hj, h⟩ := optK_out h
      obtain ⟨v, hp, hk⟩ := optK_out h
      have hiv := he.ev i
      rw [hi] at hiv
      have hiv := hiv.intv
      have hv := he.ev x
      rw [hx] at hv; simp only [VR] at hv
      obtain ⟨ys, e1, e2⟩ := hv
      obtain ⟨y, hy, hr⟩ := partS_sound e2 hp
      obtain ⟨rfl, hlt⟩ := idxOk_some hj
      obtain ⟨inf, q1, q2, q3⟩ := arrPart_some hs
      refine ⟨v, y, hk, hy, ?_⟩
      simp only [execOp, ho, e1, hiv]
      refine run_value fun w => ?_
      have hb : (0 : Int) ≤ (j : Int) ∧ (j : Int) < n := ⟨by omega, by omega⟩
      simp only [Instr.index, asIntOf, bind, pure, run_bind, Sem.bind, Sem.run, Cv.run_underlying q1, if_pos hb, run_sizeOf q2, q3]
      exact hr w
    · exact sqL_sound he h
  case field t x f =>
    simp only [sq, ho] at h
    split at h <;> first | exact h.elim | skip
    rename_i cs hx
    obtain ⟨⟨ft, off⟩, hf, h⟩ := optK_out h
    obtain ⟨v, hp, hk⟩ := optK_out h
    have hv := he.ev x
    rw [hx] at hv; simp only [VR] at hv
    obtain ⟨ys, e1, e2⟩ := hv
    obtain ⟨y, hy, hr⟩ := partS_sound e2 hp
    obtain ⟨fs, fd, h1, h2, rfl, rfl⟩ := fieldPart_some hf
    refine ⟨v, y, hk, hy, ?_⟩
    simp only [execOp, ho, e1]
    refine run_value fun w => ?_
    simp only [Instr.field, asAgg, bind, pure, run_bind, Sem.bind, Sem.run, Cv.run_underlying h1, h2]
    exact hr w
  case extract x i =>
    simp only [sq, ho] at h
    split at h <;> first | exact h.elim | skip
    rename_i l hx
    obtain ⟨v, hl, h⟩ := optK_out h
    have hv := he.ev x
    rw [hx] at hv; simp only [VR] at hv
    obtain ⟨ys, e1, e2⟩ := hv
    obtain ⟨y, hy, hr⟩ := e2.get hl
    refine ⟨v, y, h, hr, ?_⟩
    simp only [execOp, ho, e1]
    refine run_value fun w => ?_
    have : ys.toArray[i]? = some y := by simp [hy]
    simp only [Instr.extract, this]
    rfl
  case build t ps =>
    simp only [sq, ho] at h
    obtain ⟨v, hb, h⟩ := optK_out h
    obtain ⟨y, hy, hr⟩ := sbuild_sound (sparts_ok he ps.toList) hb
    refine ⟨v, y, h, hy, ?_⟩
    simp only [execOp, ho]
    refine run_value fun w => ?_
    have : (ps.map fun (i, x) => (i, ev ρ x)) = (ps.toList.map fun p => (p.1, ev ρ p.2)).toArray := by
      apply Array.ext'
      simp
    rw [this]
    exact hr w
  case makeFunc fn a b =>
    cases fn <;> simp only [sq, ho] at h
    rename_i f
    obtain ⟨as, e1, e2⟩ := evs_arr he a
    obtain ⟨bs, e3, e4⟩ := evs_arr he b
    refine ⟨_, .func (.func f) as.toArray bs.toArray, h, by simp only [VR]; exact ⟨as, bs, rfl, e2, e4⟩, ?_⟩
    simp only [execOp, ho, e1, e3]
    exact run_value fun w => rfl
  case makeInterface t x =>
    simp only [sq, ho] at h
    obtain ⟨hb, h⟩ : isIfcT P t = false ∧ K (.ifc t (sev ρS x)) := by
      revert h; cases isIfcT P t <;> intro h
      · exact ⟨rfl, h⟩
      · exact h.elim
    refine ⟨_, .iface t (ev ρ x), h, by simp only [VR]; exact ⟨_, rfl, he.ev x⟩, ?_⟩
    simp only [execOp, ho]
    refine run_value fun w => ?_
    unfold isIfcT at hb
    cases hd : P.underlying t with
    | none => rw [hd] at hb; cases hb
    | some d =>
      rw [hd] at hb
      unfold Instr.makeInterface
      simp only [bind, run_bind, Cv.run_underlying hd]
      cases d <;> first | rfl | cases hb
  case binOp op t x y u =>
    simp only [sq, ho] at h
    rcases bif_out2 h with ⟨hp, hk⟩ | ⟨_, h⟩
    · simp only [Bool.and_eq_true] at hp
      obtain ⟨⟨hp1, hp2⟩, hp3⟩ := hp
      obtain ⟨a, ha⟩ := ptrV_ok hp1 (he.ev x)
      have hy := isNilC_eq hp3
      subst hy
      clear h
      split at hk <;> first | exact hk.elim | skip
      · refine ⟨_, .bool false, hk, leaf_mk rfl, ?_⟩
        have := run_binEq (P := P) (neg := false) (r := false) (ρ := ρ) ho (by rw [ha]; trivial) trivial (fun w => by rw [ha]; exact eqGuard_plain trivial w) (fun w => by rw [ha]; exact run_nilEq_ptr (isPtrT_nil hp2 a) w)
        simpa using this
      · refine ⟨_, .bool true, hk, leaf_mk rfl, ?_⟩
        have := run_binEq (P := P) (neg := true) (r := false) (ρ := ρ) ho (by rw [ha]; trivial) trivial (fun w => by rw [ha]; exact eqGuard_plain trivial w) (fun w => by rw [ha]; exact run_nilEq_ptr (isPtrT_nil hp2 a) w)
        simpa using this
    · rcases bif_out2 h with ⟨hp, hk⟩ | ⟨_, h⟩
      · simp only [Bool.and_eq_true] at hp
        clear h
        split at hk
        · rename_i sz els hx
          have hv := he.ev x
          rw [hx] at hv; simp only [VR, DR] at hv
          obtain ⟨a, c, e1, _, _, e4⟩ := hv
          exact nilAsk_run ho hp.1 hp.2 e1 (fun ha => by
            rcases e4 with e4 | ⟨_, _, _, _, _, e5, _⟩
            · exact e4
            · rw [ha] at e5; cases e5) hk
        · exact sqL_sound he hk
      · split at h
        · rename_i xs hxs
          split at h <;> first | exact h.elim | skip
          rename_i ys hys
          rcases bif_out2 h with ⟨_, hk⟩ | ⟨hgt, hk⟩
          · exact hk.elim
          clear h
          obtain ⟨b, hb, hk⟩ := optK_out hk
          have ex := leaf_ok hxs (he.ev x)
          have ey := leaf_ok hys (he.ev y)
          have hrun := fun w => aggEq_run (P := P) hb w
          simp only [Array.toArray_toList] at hrun
          have hg : ∀ (op : BinOp) w, (eqGuard op t x y (.agg xs) (.agg ys)).run P w = .ok () w := by
            intro op w
            unfold eqGuard
            cases op <;> first | rfl | (simp [bind, pure, run_bind, program, Sem.run, Sem.bind, hgt])
          split at hk <;> first | exact hk.elim | skip
          · refine ⟨_, .bool b, hk, leaf_mk rfl, ?_⟩
            have := run_binEq (P := P) (neg := false) (r := b) (ρ := ρ) ho (by rw [ex]; trivial) (by rw [ey]; trivial) (fun w => by rw [ex, ey]; exact hg _ w) (fun w => by rw [ex, ey]; exact hrun w)
            simpa using this
          · refine ⟨_, .bool (!b), hk, leaf_mk rfl, ?_⟩
            have := run_binEq (P := P) (neg := true) (r := b) (ρ := ρ) ho (by rw [ex]; trivial) (by rw [ey]; trivial) (fun w => by rw [ex, ey]; exact hg _ w) (fun w => by rw [ex, ey]; exact hrun w)
            simpa using this
        · exact sqL_sound he h
  case call c =>
    simp only [sq, ho] at h
    split at h
    · rename_i hc
      split at h
      · rename_i sz els hargs
        obtain ⟨t, ht, h⟩ := optK_out h
        obtain ⟨hs, h⟩ := bif_out h
        obtain ⟨ys, e1, e2⟩ := evs_arr he c.args
        rw [hargs] at e2
        simp only [VRL, VR, DR] at e2
        obtain ⟨y, _, rfl, ⟨a, k, rfl, _⟩, rfl⟩ := e2
        refine ⟨_, .int .i64 els.length, h, leaf_mk rfl, ?_⟩
        rw [exec_builtin ho hc, e1]
        obtain ⟨e, hse⟩ := isSlT_some hs
        refine run_value fun w => ?_
        simp only [Builtin.len_, ht, List.getElem?_toArray, List.getElem?_cons_zero, bind, run_bind, Cv.run_underlying hse]
        rfl
      · exact sqL_sound he h
    · exact sqL_sound he h
  case slice t x lo hi mx =>
    cases mx with
    | some m => simp only [sq, ho] at h
    | none =>
      simp only [sq, ho] at h
      split at h
      · rename_i sz els hx
        obtain ⟨sz', hs, h⟩ := optK_out h
        obtain ⟨hb, hh⟩ := bif_out h
        have := Nat.eq_of_beq_eq_true hb
        subst this
        obtain ⟨l, u, h1, h2, hh⟩ := bndN_out hh
        have hv := he.ev x
        rw [hx] at hv; simp only [VR] at hv
        obtain ⟨a, c, v, e1, hk, hsl⟩ := hv.ro_cut hh
        have hp : pval P o ρ (fun y => VR E v y) := by
          simp only [pval, ho, e1, hs, bndS_some he h1, bndS_some he h2, bndN]
          exact slN_mono (fun p n c hh => hh E rfl) hsl
        obtain ⟨y, hy, hf⟩ := pval_sound hp
        exact ⟨v, y, hk, hy, hf⟩
      · exact sqL_sound he h
  case unOp op t x => simp only [sq, ho] at h; exact sqL_sound he h
  case convert s d x => simp only [sq, ho] at h; exact sqL_sound he h
  all_goals (simp only [sq, ho] at h)

end Sx
