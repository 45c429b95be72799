/- Views, and their bytes: the conditions hold. -/
import Derived.Test.YtlgpgmafmgmfdaaSyV3
set_option linter.unusedVariables false
set_option linter.unusedSimpArgs false
set_option maxRecDepth 100000
namespace Sx
open Go Cv Go.Proofs
open Classical

theorem elAt {α : Type} {f : α → List D} {l : List α} {i n : Nat} {x : α} (h : l[i]? = some x) (hn : (f x).length = n) : elPart (l.map f) i 0 n = some (f x) := by
  unfold elPart
  rw [List.getElem?_map, h]
  simp only [Option.map_some, Nat.zero_add, hn, Nat.ble_eq_true_of_le (Nat.le_refl n), cond_true, List.drop_zero]
  rw [← hn, List.take_of_length_le (Nat.le_refl _)]

theorem elSub {α : Type} {f : α → List D} {l : List α} {i g n : Nat} {x : α} {r : List D} (h : l[i]? = some x) (hn : g + n ≤ (f x).length) (hr : ((f x).drop g).take n = r) : elPart (l.map f) i g n = some r := by
  unfold elPart
  rw [List.getElem?_map, h]
  simp only [Option.map_some, Nat.ble_eq_true_of_le hn, cond_true, hr]

theorem getD {α : Type} {l : List α} {i : Nat} (h : i < l.length) : ∃ x, l[i]? = some x := ⟨_, List.getElem?_eq_getElem h⟩

theorem better_ok : betterC.ok Try.prog 97 := bybetter gok0 fun i _ => by
  refine Cv.cnd.mk (fun e => ⟨(), ?_, trivial⟩) (fun e => ⟨(), ?_, trivial⟩)
  · have e : i.side = 1 := by simpa using e
    simp [betterB, e]
  · have e : i.side ≠ 1 := by simpa using e
    simp [betterB, e]

theorem sdF {side : Int} {s : Sd} (h : ¬ SdRight side s) : sdRight side s = false := decide_eq_false h
theorem sdT {side : Int} {s : Sd} (h : SdRight side s) : sdRight side s = true := decide_eq_true h

theorem LvAt.of {side : Int} {l : List Lv} {i : Nat} {x : Lv} (hx : l[i]? = some x) (h1 : 1 ≤ x.qty) (h2 : 1 ≤ x.count) (h3 : ∀ j b, i = j + 1 → l[j]? = some b → betterB side b.price x.price = true) : LvAt side l i := by
  intro a ha
  rw [hx] at ha; cases ha
  exact ⟨h1, h2, h3⟩

theorem vright (i : SdI) (h : rightC.cnd i) : Vright i := by
  have h : i.s.levels.length ≤ 1099511627776 := h
  refine ⟨0, rfl, fun j => j ≤ i.s.levels.length ∧ ∀ k, k < j → LvAt i.side i.s.levels k, fun j => i.s.levels.length - j, ⟨by omega, by intro k hk; omega⟩, fun j hj => cndD (fun hlt => ?_) (fun hlt => ?_)⟩
  · obtain ⟨hj1, hj2⟩ := hj
    rw [List.length_map] at hlt ⊢
    obtain ⟨x, hx⟩ := getD (l := i.s.levels) (i := j) (by omega)
    have w1 : IntKind.i64.wrap ((j : Int) + 1) = ((j + 1 : Nat) : Int) := by rw [w64 (by omega)]; rfl
    have next : LvAt i.side i.s.levels j → (fun j => j ≤ i.s.levels.length ∧ ∀ k, k < j → LvAt i.side i.s.levels k) (j + 1) := fun hl => ⟨by omega, fun k hk => by
      rcases Nat.lt_or_ge k j with h' | h'
      · exact hj2 k h'
      · obtain rfl : k = j := by omega
        exact hl⟩
    refine ⟨⟨by omega, by omega⟩, x.price, x.qty, x.count, elAt hx rfl, cndD (fun hq => ?_) (fun hq => cndD (fun hc => ?_) (fun hc => cndD (fun hp => ?_) (fun hp => ?_)))⟩
    · exact ⟨(), sdF fun hr => by have := (hr.1 j x hx).1; omega, trivial⟩
    · exact ⟨(), sdF fun hr => by have := (hr.1 j x hx).2.1; omega, trivial⟩
    · have w0 : IntKind.i64.wrap ((j : Int) - 1) = ((j - 1 : Nat) : Int) := by rw [w64 (by omega)]; omega
      obtain ⟨y, hy⟩ := getD (l := i.s.levels) (i := j - 1) (by omega)
      refine ⟨⟨by rw [w0]; omega, by rw [w0]; omega⟩, y.price, by rw [w0]; exact elSub (n := 1) hy (by show 0 + 0 + 1 ≤ 3; omega) rfl, ⟨i.side, y.price, x.price⟩, rfl, rfl, rfl, trivial, fun _ _ => ?_⟩
      refine Cv.cnd.mk (fun hb => ⟨(), sdF fun hr => ?_, trivial⟩) (fun hb => ⟨j + 1, w1.symm, next (LvAt.of hx (by omega) (by omega) ?_), by dsimp only; omega, by (repeat' (first | exact trivial | exact rfl | apply And.intro))⟩)
      · have := (hr.1 j x hx).2.2 (j - 1) y (by omega) hy
        simp only [Bool.not_eq_true'] at hb
        rw [hb] at this; cases this
      · intro k b hk hb'
        obtain rfl : k = j - 1 := by omega
        rw [hy] at hb'; cases hb'
        simpa using hb
    · exact ⟨j + 1, w1.symm, next (LvAt.of hx (by omega) (by omega) fun k b hk _ => by omega), by dsimp only; omega, by (repeat' (first | exact trivial | exact rfl | apply And.intro))⟩
  · obtain ⟨hj1, hj2⟩ := hj
    rw [List.length_map] at hlt ⊢
    obtain rfl : j = i.s.levels.length := by omega
    have hall : ∀ k, LvAt i.side i.s.levels k := fun k => by
      rcases Nat.lt_or_ge k i.s.levels.length with h' | h'
      · exact hj2 k h'
      · intro a ha; rw [List.getElem?_eq_none h'] at ha; cases ha
    refine Cv.cnd.mk (fun hh => cndD (fun hl => ⟨(), ?_, trivial⟩) (fun hl => ⟨(), sdF fun hr => by have := hr.2.1; omega, trivial⟩))
      (fun hh => cndD (fun hl => cndD (fun hq => ⟨(), ?_, trivial⟩) (fun hq => ⟨(), sdF fun hr => ?_, trivial⟩)) (fun hl => ⟨(), sdF fun hr => by have := hr.2.1; omega, trivial⟩))
    · have hh : i.s.has = false := by simpa using hh
      rw [Bool.eq_iff_iff]
      simp only [sdRight, decide_eq_true_eq, Bool.and_eq_true, beq_iff_eq, and_true]
      constructor
      · intro hr
        have := hr.2.2.2 hh
        rw [this]; exact ⟨rfl, rfl, rfl⟩
      · rintro ⟨e1, e2, e3⟩
        refine ⟨hall, by omega, (fun hc => by rw [hh] at hc; cases hc), fun _ => ?_⟩
        cases hi : i.s.imp
        rw [hi] at e1 e2 e3
        simp_all
    · have hh : i.s.has = true := by simpa using hh
      rw [Bool.eq_iff_iff]
      simp only [sdRight, decide_eq_true_eq]
      exact ⟨fun hr => (hr.2.2.1 hh).2, fun hc => ⟨hall, by omega, fun _ => ⟨hq, hc⟩, fun hc => by rw [hh] at hc; cases hc⟩⟩
    · have hh : i.s.has = true := by simpa using hh
      have := (hr.2.2.1 hh).1
      omega
theorem right_ok : rightC.ok Try.prog 56 := byright (gokc better_ok gok0) vright

theorem vwF {v : Vw} (h : ¬ VwRight v) : vwRight v = false := decide_eq_false h

theorem vrightV (v : Vw) (h : rightVC.cnd v) : VrightV v := by
  obtain ⟨h1, h2⟩ : VwSmall v := h
  refine ⟨0, rfl, fun j => j ≤ v.length ∧ ∀ k b, k < j → v[k]? = some b → SdRight 1 b.1 ∧ SdRight 2 b.2, fun j => v.length - j, ⟨by omega, by intro k b hk; omega⟩, fun j hj => cndD (fun hlt => ?_) (fun hlt => ?_)⟩
  · obtain ⟨hj1, hj2⟩ := hj
    rw [List.length_map] at hlt ⊢
    obtain ⟨x, hx⟩ := getD (l := v) (i := j) (by omega)
    have hm := List.mem_of_getElem? hx
    have w1 : IntKind.i64.wrap ((j : Int) + 1) = ((j + 1 : Nat) : Int) := by rw [w64 (by omega)]; rfl
    refine ⟨⟨by omega, by omega⟩, _, _, _, _, _, _, _, _, _, _, elAt hx rfl, ⟨1, x.1⟩, rfl, rfl, rfl, rfl, rfl, rfl, (h2 x hm).1, fun _ _ => Cv.cnd.mk (fun hb => ?_) (fun hb => ⟨⟨2, x.2⟩, rfl, rfl, rfl, rfl, rfl, rfl, (h2 x hm).2, fun _ _ => Cv.cnd.mk (fun hb2 => ?_) (fun hb2 => ?_)⟩)⟩
    · refine ⟨(), vwF fun hr => ?_, trivial⟩
      simp only [Bool.not_eq_true', sdRight, decide_eq_false_iff_not] at hb
      exact hb (hr.1 x hm).1
    · refine ⟨(), vwF fun hr => ?_, trivial⟩
      simp only [Bool.not_eq_true', sdRight, decide_eq_false_iff_not] at hb2
      exact hb2 (hr.1 x hm).2
    · simp only [Bool.not_eq_false', sdRight, decide_eq_true_eq] at hb hb2
      refine ⟨j + 1, w1.symm, ⟨by omega, fun k b hk hb' => ?_⟩, by dsimp only; omega, by (repeat' (first | exact trivial | exact rfl | apply And.intro))⟩
      rcases Nat.lt_or_ge k j with h' | h'
      · exact hj2 k b h' hb'
      · obtain rfl : k = j := by omega
        rw [hx] at hb'; cases hb'
        exact ⟨hb, hb2⟩
  · obtain ⟨hj1, hj2⟩ := hj
    rw [List.length_map] at hlt ⊢
    obtain rfl : j = v.length := by omega
    refine ⟨(), ?_, trivial⟩
    rw [Bool.eq_iff_iff]
    simp only [vwRight, decide_eq_true_eq]
    constructor
    · intro hr; have := hr.2; omega
    · intro hr
      refine ⟨fun b hb => ?_, by omega⟩
      obtain ⟨k, hk⟩ := List.getElem?_of_mem hb
      exact hj2 k b (List.getElem?_eq_some_iff.1 hk).1 hk
theorem rightV_ok : rightVC.ok Try.prog 13 := byrightV (gokc right_ok gok0) vrightV

theorem putL_ok : putLC.ok Try.prog 47 := byputL (gokc long_ok gok0) fun i h => by
  have h : i.l.length + 24 ≤ 1099511627776 := h
  refine ⟨⟨i.l, i.v.price⟩, rfl, rfl, (show i.l.length + 8 ≤ 1099511627776 by omega), fun _ _ => ⟨⟨i.l ++ le i.v.price 8, i.v.qty⟩, rfl, rfl, ?_, fun _ _ => ⟨⟨i.l ++ le i.v.price 8 ++ le i.v.qty 8, i.v.count⟩, rfl, rfl, ?_, fun _ _ => ⟨(), ?_, trivial⟩⟩⟩⟩
  · show _ + 8 ≤ _
    rw [List.length_append, le_len]; omega
  · show _ + 8 ≤ _
    rw [List.length_append, List.length_append, le_len, le_len]; omega
  · simp only [encLv, List.append_assoc]

end Sx
