/- Memory: loads, stores, slices. No condition. -/
import Derived.Test.YtlgpgmafmgmfdaaCvH
set_option linter.unusedSimpArgs false
set_option linter.unusedVariables false
namespace Cv
open Go Go.RowKit

theorem add_mk (b o n : Nat) : (⟨b, o, none⟩ : Addr).add n = ⟨b, o + n, none⟩ := by
  unfold Addr.add; split
  · rename_i h; subst h; rfl
  · rfl

def scal (P : Program) (t : TypeId) : Bool :=
  match P.underlying t with
  | some (.struct _) => false
  | some (.array _ _) => false
  | some _ => true
  | none => false

def aggS (P : Program) (t : TypeId) : Option Nat :=
  match P.underlying t with
  | some (.struct _) => (P.info? t).map fun (x : TypeInfo) => x.size
  | some (.array _ _) => (P.info? t).map fun (x : TypeInfo) => x.size
  | _ => none

theorem run_isAgg_scal {P : Program} {t : TypeId} (h : scal P t = true) (w : World) : (isAgg t).run P w = .ok false w := by
  unfold scal at h
  cases hd : P.underlying t with
  | none => rw [hd] at h; cases h
  | some d =>
    rw [hd] at h
    unfold isAgg
    simp only [bind, run_bind, run_underlying hd]
    cases d <;> first | rfl | (simp at h)

theorem run_isAgg_agg {P : Program} {t : TypeId} {n : Nat} (h : aggS P t = some n) (w : World) : (isAgg t).run P w = .ok true w ∧ (Go.sizeOf t).run P w = .ok n w := by
  unfold aggS at h
  cases hd : P.underlying t with
  | none => rw [hd] at h; cases h
  | some d =>
    rw [hd] at h
    cases d <;> simp only [reduceCtorEq] at h
    all_goals
      cases hi : P.info? t with
      | none => rw [hi] at h; cases h
      | some i =>
        rw [hi] at h
        simp only [Option.map_some, Option.some.injEq] at h
        subst h
        refine ⟨?_, run_sizeOf hi w⟩
        unfold isAgg
        simp only [bind, run_bind, run_underlying hd]
        rfl

theorem run_load {P : Program} {w : World} {a : Addr} {v : Value} (h : w.cell? a = some v) : (load a).run P w = .ok v w := by
  simp only [load, Sem.run, h]

theorem cell_list {w : World} {b o : Nat} {l : List Value} {T : TypeId} {fr : Nat × Nat} (hb : w.heap[b]? = some (.cells l.toArray T fr)) : w.cell? ⟨b, o, none⟩ = l[o]? := by
  simp [World.cell?, hb]

theorem holds_cell {P : Program} {t : TypeId} {w : World} {b o : Nat} {l : List Value} {T : TypeId} {fr : Nat × Nat} {v : Value} (hs : scal P t = true)
    (hb : w.heap[b]? = some (.cells l.toArray T fr)) (hc : l[o]? = some v) : Holds P t ⟨b, o, none⟩ w v := by
  unfold Holds loadVar
  simp only [bind, run_bind, run_isAgg_scal hs, Bool.false_eq_true, if_false]
  exact run_load ((cell_list hb).trans hc)

theorem run_loadCellsFrom {P : Program} {w : World} {b o : Nat} {l : List Value} {T : TypeId} {fr : Nat × Nat} (hb : w.heap[b]? = some (.cells l.toArray T fr)) :
    ∀ (n i : Nat) (acc : Array Value), o + i + n ≤ l.length → (loadCellsFrom ⟨b, o, none⟩ i n acc).run P w = .ok (acc ++ ((l.drop (o + i)).take n).toArray) w
  | 0, i, acc, _ => by simp [loadCellsFrom, pure, Sem.run]
  | n + 1, i, acc, h => by
    have hlt : o + i < l.length := by omega
    have hc : w.cell? ⟨b, o + i, none⟩ = some l[o + i] := by rw [cell_list hb]; exact List.getElem?_eq_getElem hlt
    unfold loadCellsFrom
    simp only [bind, run_bind, add_mk, run_load hc]
    rw [run_loadCellsFrom hb n (i + 1) _ (by omega)]
    congr 1
    rw [List.drop_eq_getElem_cons hlt, List.take_succ_cons]
    simp [Nat.add_assoc]

theorem run_loadCells {P : Program} {w : World} {b o n : Nat} {l : List Value} {T : TypeId} {fr : Nat × Nat} (hb : w.heap[b]? = some (.cells l.toArray T fr)) (h : o + n ≤ l.length) :
    (loadCells ⟨b, o, none⟩ n).run P w = .ok ((l.drop o).take n).toArray w := by
  unfold loadCells
  rw [run_loadCellsFrom hb n 0 #[] (by omega)]
  simp

theorem holds_agg {P : Program} {t : TypeId} {w : World} {b o n : Nat} {l vs : List Value} {T : TypeId} {fr : Nat × Nat} (hs : aggS P t = some n)
    (hb : w.heap[b]? = some (.cells l.toArray T fr)) (hc : (l.drop o).take n = vs) (hl : vs.length = n) : Holds P t ⟨b, o, none⟩ w (.agg vs.toArray) := by
  unfold Holds loadVar
  have hlen : o + n ≤ l.length ∨ n = 0 := by
    subst hc
    simp only [List.length_take, List.length_drop] at hl
    omega
  simp only [bind, run_bind, (run_isAgg_agg hs w).1, if_true, (run_isAgg_agg hs w).2]
  rcases hlen with hlen | h0
  · rw [run_loadCells hb hlen, hc]
    rfl
  · subst h0
    have : vs = [] := List.eq_nil_of_length_eq_zero hl
    subst this
    rfl

/-! ### Stores -/
def _root_.Go.Value.oneC : Value → Bool
  | .agg _ => false
  | .tuple _ => false
  | _ => true

def spl (l : List Value) (o : Nat) (vs : List Value) : List Value := l.take o ++ vs ++ l.drop (o + vs.length)

theorem setB_setB (w : World) (b : Nat) (x y : Obj) : World.setB (World.setB w b x) b y = World.setB w b y := by
  simp [World.setB, Array.setIfInBounds_setIfInBounds]

theorem run_store1 {P : Program} {w : World} {b o : Nat} {l : List Value} {T : TypeId} {v : Value} (hb : w.heap[b]? = some (.cells l.toArray T (0, 0))) (ho : o < l.length) (hv : v.oneC = true) :
    (store ⟨b, o, none⟩ v).run P w = .ok () (World.setB w b (.cells (l.set o v).toArray T (0, 0))) := by
  have hc : w.cell? ⟨b, o, none⟩ = some l[o] := by rw [cell_list hb]; exact List.getElem?_eq_getElem ho
  have hf : w.frozen? ⟨b, o, none⟩ = false := by simp [World.frozen?, hb]
  have hset : w.setCell ⟨b, o, none⟩ v = World.setB w b (.cells (l.set o v).toArray T (0, 0)) := by
    unfold World.setCell World.setB
    congr 1
    apply Array.ext_getElem?
    intro i
    rw [Array.getElem?_modify, Array.getElem?_setIfInBounds]
    have hlt : b < w.heap.size := by
      rcases Nat.lt_or_ge b w.heap.size with h | h
      · exact h
      · rw [Array.getElem?_eq_none h] at hb; cases hb
    by_cases hi : b = i
    · subst hi
      have hb2 : w.heap[b] = .cells l.toArray T (0, 0) := by rw [Array.getElem?_eq_getElem hlt] at hb; exact Option.some.inj hb
      simp [hlt, hb2]
    · simp [hi]
  unfold store
  cases v <;> first | (cases hv; done) | (simp only [Sem.run, hc, hf, Bool.false_eq_true, if_false, hset])

theorem spl_set {l : List Value} {p : Nat} {v : Value} {vs : List Value} (h : p < l.length) : spl (l.set p v) (p + 1) vs = spl l p (v :: vs) := by
  have h1 : (l.set p v).take (p + 1) = l.take p ++ [v] := by
    rw [List.set_eq_take_append_cons_drop, if_pos h]
    rw [List.take_append, List.length_take]
    simp [Nat.min_eq_left (Nat.le_of_lt h), List.take_take]
  have h2 : (l.set p v).drop (p + 1 + vs.length) = l.drop (p + (v :: vs).length) := by
    rw [List.drop_set_of_lt (by omega)]
    congr 1
    simp only [List.length_cons]; omega
  simp only [spl, h1, h2, List.append_assoc, List.singleton_append]

theorem run_storeCells {P : Program} {b : Nat} {T : TypeId} : ∀ (vs : List Value) (i o : Nat) (l : List Value) (w : World), w.heap[b]? = some (.cells l.toArray T (0, 0)) → o + i + vs.length ≤ l.length →
    (∀ v ∈ vs, v.oneC = true) → (storeCells ⟨b, o, none⟩ vs i).run P w = .ok () (World.setB w b (.cells (spl l (o + i) vs).toArray T (0, 0)))
  | [], i, o, l, w, hb, h, _ => by
    have hlt : b < w.heap.size := by
      rcases Nat.lt_or_ge b w.heap.size with h | h
      · exact h
      · rw [Array.getElem?_eq_none h] at hb; cases hb
    have : World.setB w b (.cells (spl l (o + i) []).toArray T (0, 0)) = w := by
      have e : spl l (o + i) [] = l := by simp [spl]
      rw [e]
      unfold World.setB
      have : w.heap.setIfInBounds b (.cells l.toArray T (0, 0)) = w.heap := by
        apply Array.ext_getElem?
        intro j
        rw [Array.getElem?_setIfInBounds]
        split
        · rename_i hj; subst hj; rw [hb]
        · rfl
      rw [this]
    unfold storeCells
    rw [this]
    rfl
  | v :: vs, i, o, l, w, hb, h, hv => by
    have hlt : b < w.heap.size := by
      rcases Nat.lt_or_ge b w.heap.size with h | h
      · exact h
      · rw [Array.getElem?_eq_none h] at hb; cases hb
    simp only [List.length_cons] at h
    unfold storeCells
    simp only [bind, run_bind, add_mk, run_store1 hb (show o + i < l.length by omega) (hv v List.mem_cons_self)]
    have hb' : (World.setB w b (.cells (l.set (o + i) v).toArray T (0, 0))).heap[b]? = some (.cells (l.set (o + i) v).toArray T (0, 0)) := by
      simp [World.setB, Array.getElem?_setIfInBounds_self_of_lt hlt]
    rw [run_storeCells vs (i + 1) o (l.set (o + i) v) _ hb' (by rw [List.length_set]; omega) (fun u hu => hv u (List.mem_cons_of_mem _ hu)), setB_setB]
    rw [show o + (i + 1) = o + i + 1 by omega, spl_set (show o + i < l.length by omega)]

/-! ### In lists of parts -/

theorem Hp.cell {k : Ko} {w : World} {b o : Nat} {l : List Value} {T : TypeId} {fr : Nat × Nat} {L : List HP} {P : Program} {t : TypeId} {v : Value} (H : Hp k w (pt b (.cells l.toArray T fr) :: L))
    (hs : scal P t = true) (hc : l[o]? = some v) : Holds P t ⟨b, o, none⟩ w v := holds_cell hs H.get hc

theorem Hp.store {k : Ko} {w : World} {b o : Nat} {l : List Value} {T : TypeId} {L : List HP} {P : Program} {t : TypeId} {v : Value} (H : Hp k w (pt b (.cells l.toArray T) :: L))
    (hs : scal P t = true) (ho : o < l.length) (hv : v.oneC = true) (hz : (P.info? t).any (fun (i : TypeInfo) => i.size == 1) = true) :
    ∃ w', RunsU P (storeVar t ⟨b, o, none⟩ v) w w' ∧ Hp k w' (pt b (.cells (l.set o v).toArray T) :: L) := by
  refine ⟨_, ?_, H.upd _⟩
  cases hi : P.info? t with
  | none => rw [hi] at hz; cases hz
  | some i =>
    rw [hi] at hz
    have hsz : i.size = 1 := by simpa using hz
    have hvc : v.cells = #[v] := by cases v <;> first | (cases hv; done) | rfl
    unfold RunsU storeVar
    simp only [bind, run_bind, run_sizeOf hi, hvc, hsz]
    have := run_storeCells (P := P) [v] 0 o l w H.get (by simp; omega) (by simpa using hv)
    simp only [Nat.add_zero] at this
    have e : spl l o [v] = l.set o v := by
      rw [List.set_eq_take_append_cons_drop, if_pos ho]
      simp [spl]
    rw [e] at this
    simpa using this

theorem Hp.storeA {k : Ko} {w : World} {b o n : Nat} {l vs : List Value} {T : TypeId} {L : List HP} {P : Program} {t : TypeId} (H : Hp k w (pt b (.cells l.toArray T) :: L))
    (hs : aggS P t = some n) (hl : vs.length = n) (ho : o + n ≤ l.length) (hv : ∀ v ∈ vs, v.oneC = true) :
    ∃ w', RunsU P (storeVar t ⟨b, o, none⟩ (.agg vs.toArray)) w w' ∧ Hp k w' (pt b (.cells (spl l o vs).toArray T) :: L) := by
  refine ⟨_, ?_, H.upd _⟩
  unfold RunsU storeVar
  simp only [bind, run_bind, (run_isAgg_agg hs w).2, Value.cells, List.size_toArray, hl]
  have := run_storeCells (P := P) vs 0 o l w H.get (by omega) hv
  simp only [Nat.add_zero] at this
  simpa using this

end Cv
