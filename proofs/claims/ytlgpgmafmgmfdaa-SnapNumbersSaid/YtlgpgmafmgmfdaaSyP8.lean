/- SnapNumbers: the condition holds. -/
import Derived.Test.YtlgpgmafmgmfdaaSyV8
set_option linter.unusedVariables false
set_option linter.unusedSimpArgs false
set_option maxRecDepth 100000
namespace Sx
open Go Cv Go.Proofs
open Classical

def sd0 : Sd := ⟨[], ⟨0, 0, 0⟩, false⟩
def both0 : Sd × Sd := (sd0, sd0)

theorem sd0_right (s : Int) : SdRight s sd0 := ⟨fun i a h => by simp [sd0] at h, by simp [sd0], fun h => by simp [sd0] at h, fun _ => rfl⟩
theorem rep_right {n : Nat} (h : n ≤ 255) : VwRight (List.replicate n both0) := ⟨fun b hb => by
  rw [(List.mem_replicate.1 hb).2]; exact ⟨sd0_right 1, sd0_right 2⟩, by simpa using h⟩
theorem rep_small {n : Nat} (h : n ≤ 256) : VwSmall (List.replicate n both0) := ⟨by simp; omega, fun b hb => by
  rw [(List.mem_replicate.1 hb).2]; simp [both0, sd0]⟩

theorem mod_mid {α : Type} (f : α → α) (x : α) (b : List α) : ∀ a : List α, (a ++ x :: b).modify a.length f = a ++ f x :: b
  | [] => rfl
  | y :: a => by
    show y :: (a ++ x :: b).modify a.length f = _
    rw [mod_mid f x b a]; rfl

theorem l8_len {j : Nat} (h : j ≤ 256) : (l8 j).length = 256 := by simp [l8]; omega
theorem l8_step {j : Nat} (h : j < 256) : List.map lvE (l8 (j + 1)) = elSet (List.map lvE (l8 j)) j 0 (lvE (lvN j)) := by
  obtain ⟨m, hm⟩ : ∃ m, 256 - j = m + 1 := ⟨256 - j - 1, by omega⟩
  have hm' : 256 - (j + 1) = m := by omega
  have e1 : List.map lvE (l8 j) = ((List.range j).map lvN).map lvE ++ lvE ⟨0, 0, 0⟩ :: (List.replicate m ⟨0, 0, 0⟩).map lvE := by
    rw [l8, hm, List.replicate_succ, List.map_append, List.map_cons]
  have e2 := mod_mid (fun el => el.take 0 ++ (lvE (lvN j) ++ el.drop (0 + (lvE (lvN j)).length))) (lvE ⟨0, 0, 0⟩) ((List.replicate m ⟨0, 0, 0⟩).map lvE) (((List.range j).map lvN).map lvE)
  rw [List.length_map, List.length_map, List.length_range] at e2
  rw [elSet, e1, e2, l8, hm', List.range_succ, List.map_append, List.map_append, List.map_append, List.append_assoc]
  rfl
theorem l9_step (j : Nat) : List.map lvE (l9 (j + 1)) = List.map lvE (l9 j) ++ [lvE (lvN j)] := by
  rw [l9, List.range_succ, List.map_append, List.map_append]; rfl
theorem encOut_len (v : Vw) (n : Int) : (encOut v n).length ≤ 4000000 := by
  by_cases h : VwRight v
  · have h1 := encTake_len h v.length
    rw [List.take_of_length_le (Nat.le_refl _)] at h1
    rw [encOut, if_pos h, encBody]
    simp only [List.length_append, le_len, List.length_cons, List.length_nil]
    omega
  · rw [encOut, if_neg h]; simp
theorem wrap500 {j : Nat} (h : j ≤ 256) : IntKind.i64.wrap ((500 : Int) - (j : Int)) = 500 - j := w64 (by omega)

theorem vsnap (u : Unit) (_ : snapC.cnd u) : Vsnap u := by
  unfold Vsnap
  refine ⟨0, rfl, fun k => k ≤ 10, fun k => 10 - k, (by omega), fun k hk => cndD (fun hlt => ?_) (fun hlt => ?_)⟩
  · dsimp only at hk
    have w1 : ((k + 1 : Nat) : Int) = IntKind.i64.wrap ((k : Int) + 1) := by rw [w64 (by omega)]; rfl
    refine ⟨both0, rfl, rfl, rfl, rfl, trivial, rfl, rfl, rfl, rfl, rfl, fun x => x.1.levels.length ≤ 256 ∧ x.2.levels.length ≤ 256,
      Cv.cnd.mk (fun _ => ⟨⟨by decide, by decide⟩, by decide, (⟨[⟨9, 3, 1⟩, ⟨9, 4, 2⟩], ⟨0, 0, 0⟩, false⟩, ⟨[], ⟨-5, 1, 1⟩, true⟩), rfl, rfl, rfl, rfl, rfl, rfl, rfl, rfl, rfl, rfl, ⟨by decide, by decide⟩, trivial⟩) fun _ =>
      Cv.cnd.mk (fun _ => ⟨⟨by decide, by decide⟩, by decide, (⟨[⟨9, 0, 1⟩, ⟨5, 4, 2⟩], ⟨0, 0, 0⟩, false⟩, ⟨[], ⟨-5, 1, 1⟩, true⟩), rfl, rfl, rfl, rfl, rfl, rfl, rfl, rfl, rfl, rfl, ⟨by decide, by decide⟩, trivial⟩) fun _ =>
      Cv.cnd.mk (fun _ => ⟨⟨by decide, by decide⟩, by decide, (⟨[⟨9, 3, -1⟩, ⟨5, 4, 2⟩], ⟨0, 0, 0⟩, false⟩, ⟨[], ⟨-5, 1, 1⟩, true⟩), rfl, rfl, rfl, rfl, rfl, rfl, rfl, rfl, rfl, rfl, ⟨by decide, by decide⟩, trivial⟩) fun _ =>
      Cv.cnd.mk (fun _ => ⟨(⟨[⟨9, 3, 1⟩, ⟨5, 4, 2⟩], ⟨0, 0, 0⟩, false⟩, ⟨[], ⟨-5, 1, 1⟩, false⟩), rfl, rfl, rfl, rfl, rfl, rfl, rfl, rfl, rfl, rfl, ⟨by decide, by decide⟩, trivial⟩) fun _ =>
      Cv.cnd.mk (fun _ => ⟨(⟨[⟨9, 3, 1⟩, ⟨5, 4, 2⟩], ⟨0, 0, 0⟩, false⟩, ⟨[], ⟨-5, 0, 1⟩, true⟩), rfl, rfl, rfl, rfl, rfl, rfl, rfl, rfl, rfl, rfl, ⟨by decide, by decide⟩, trivial⟩) fun _ =>
      Cv.cnd.mk (fun _ => ⟨(⟨[⟨9, 3, 1⟩, ⟨5, 4, 2⟩], ⟨0, 0, 0⟩, false⟩, ⟨[⟨9, 3, 1⟩, ⟨5, 4, 2⟩], ⟨-5, 1, 1⟩, true⟩), rfl, rfl, rfl, rfl, rfl, rfl, rfl, rfl, rfl, rfl, ⟨by decide, by decide⟩, trivial⟩) fun _ =>
      Cv.cnd.mk (fun _ => ⟨(⟨[⟨9, 3, 1⟩, ⟨5, 4, 2⟩], ⟨0, 0, 0⟩, false⟩, ⟨[⟨-9, 3, 1⟩, ⟨5, 4, 2⟩], ⟨-5, 1, 1⟩, true⟩), rfl, rfl, rfl, rfl, rfl, rfl, rfl, rfl, rfl, rfl, ⟨by decide, by decide⟩, trivial⟩) fun _ =>
      Cv.cnd.mk (fun _ => ⟨⟨by decide, by decide, by decide, by decide⟩, 0, rfl, rfl, rfl, rfl, rfl, trivial, rfl, rfl, rfl, rfl, rfl, fun j => j ≤ 256, fun j => 256 - j, (by omega), fun j hj => cndD (fun h8 => ?_) (fun h8 => ?_)⟩) fun _ =>
      Cv.cnd.mk (fun _ => ⟨0, rfl, rfl, rfl, rfl, rfl, trivial, rfl, rfl, rfl, rfl, rfl, fun j => j ≤ 255, fun j => 255 - j, (by omega), fun j hj => cndD (fun h9 => ?_) (fun h9 => ?_)⟩) fun _ =>
      ⟨(⟨[⟨9, 3, 1⟩, ⟨5, 4, 2⟩], ⟨0, 0, 0⟩, false⟩, ⟨[], ⟨-5, 1, 1⟩, true⟩), rfl, rfl, rfl, rfl, rfl, rfl, rfl, rfl, rfl, rfl, ⟨by decide, by decide⟩, trivial⟩, ?_⟩
    · dsimp only at hj
      have hl : (List.map lvE (l8 j)).length = 256 := by rw [List.length_map, l8_len hj]
      rw [hl, wrap500 hj]
      refine ⟨⟨by omega, by omega⟩, by omega, j + 1, by rw [w64 (by omega)]; rfl, rfl, rfl, rfl, rfl, trivial, rfl, rfl, rfl, rfl, ?_, by omega, by dsimp only; omega, rfl⟩
      rw [l8_step (by omega)]; rfl
    · dsimp only at hj
      exact ⟨(⟨l8 j, ⟨0, 0, 0⟩, false⟩, ⟨[], ⟨-5, 1, 1⟩, true⟩), rfl, rfl, rfl, rfl, rfl, rfl, rfl, rfl, rfl, rfl, ⟨by dsimp only; rw [l8_len hj]; omega, by simp⟩, trivial⟩
    · dsimp only at hj
      have hl : (List.map lvE (l9 j)).length = j := by simp [l9]
      rw [hl, wrap500 (by omega)]
      refine ⟨by omega, j + 1, by rw [w64 (by omega)]; rfl, rfl, rfl, rfl, rfl, trivial, rfl, rfl, rfl, rfl, ?_, by omega, by dsimp only; omega, rfl⟩
      rw [l9_step]; rfl
    · dsimp only at hj
      exact ⟨(⟨l9 j, ⟨0, 0, 0⟩, false⟩, ⟨[], ⟨-5, 1, 1⟩, true⟩), rfl, rfl, rfl, rfl, rfl, rfl, rfl, rfl, rfl, rfl, ⟨by simp [l9]; omega, by simp⟩, trivial⟩
    · rintro ⟨a, b⟩ ⟨h1, h2⟩
      dsimp only at h1 h2 ⊢
      have hs : ∀ x ∈ ([(a, b), both0] : Vw), x.1.levels.length ≤ 256 ∧ x.2.levels.length ≤ 256 := fun x hx => by
        simp only [List.mem_cons, List.not_mem_nil, or_false] at hx
        rcases hx with rfl | rfl
        · exact ⟨h1, h2⟩
        · exact ⟨by simp [both0, sd0], by simp [both0, sd0]⟩
      have small : VwSmall [(a, b), both0] := ⟨by simp, fun x hx => by have := hs x hx; omega⟩
      have tiny : VwTiny [(a, b), both0] := ⟨by simp, fun x hx => by have := hs x hx; omega⟩
      refine ⟨⟨[(a, b), both0], -7⟩, rfl, rfl, small, fun _ _ => ⟨[(a, b), both0], rfl, tiny, fun _ _ => ⟨⟨[(a, b), both0], -7⟩, rfl, rfl, small, fun _ _ => ⟨⟨(encOut [(a, b), both0] (-7)).toArray⟩, rfl, bytesE_mk _, ⟨(encOut [(a, b), both0] (-7)).toArray⟩, rfl, bytesE_mk _,
        Cv.cnd.mk (fun e => by simp at e) fun _ => Cv.cnd.mk (fun e => by simp at e) fun _ => ⟨[(a, b), both0], rfl, small, fun _ _ => ⟨⟨trivial, trivial⟩, [(a, b), both0], rfl, tiny, fun _ _ => ⟨[(a, b), both0], rfl, small, fun _ _ =>
          Cv.cnd.mk (fun e => by simp at e) fun _ => ⟨encOut [(a, b), both0] (-7), rfl, ?_, fun _ _ => ⟨k + 1, w1, by omega, by omega, trivial⟩⟩⟩⟩⟩⟩⟩⟩⟩
      have := encOut_len [(a, b), both0] (-7)
      omega
  · refine ⟨[], rfl, by simp, fun _ _ => ⟨[1, 2, 3], rfl, by simp, fun _ _ => ⟨⟨by decide, by decide, by decide, by decide⟩, List.replicate 255 both0, rfl, rep_small (by omega), fun _ _ => Cv.cnd.mk (fun _ => ⟨⟨by decide, by decide, by decide, by decide⟩, List.replicate 256 both0, rfl, rep_small (by omega), fun _ _ => Cv.cnd.mk (fun _ => ⟨(), trivial, fun _ _ => ⟨(), rfl, trivial⟩⟩) (fun e => ?_)⟩) (fun e => ?_)⟩⟩⟩
    · exfalso
      have e : vwRight (List.replicate 256 both0) = true := by simpa using e
      have h := (of_decide_eq_true e).2
      rw [List.length_replicate] at h
      omega
    · exfalso
      have h : ¬ VwRight (List.replicate 255 both0) := of_decide_eq_false e
      exact h (rep_right (by omega))

theorem snap_ok : snapC.ok Try.prog 3 := bysnap (gokc enc_ok (gokc in_ok (gokc fenc_ok (gokc rightV_ok (gokc rright_ok (gokc read_ok (gokc known_ok gok0))))))) vsnap

end Sx
