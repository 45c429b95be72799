/- wire's writer: the conditions hold. -/
import Derived.Test.YtlgpgmafmgmfdaaSyV1
set_option linter.unusedVariables false
set_option maxRecDepth 100000
namespace Sx
open Go Cv Go.Proofs

theorem vput (i : PutI) (h : putC.cnd i) : Vput i := by
  obtain ⟨h1, h2, h3⟩ := h
  refine ⟨0, by simp, rfl, by simp [le], fun j => j ≤ i.k, fun j => i.k - j, by omega, fun j hj => cndD (fun hlt => ?_) (fun hlt => ?_)⟩
  · refine ⟨?_, by omega, j + 1, ?_, ?_, ?_, by omega, by dsimp only; omega, trivial⟩
    · rw [bE_len, List.length_append, le_len]; omega
    · have := shr_div .u64 (i.n / 256 ^ j) 8 (by decide)
      rw [show ((8 : Nat) : Int) = 8 by rfl] at this
      rw [this, Int.ediv_ediv_of_nonneg (Int.pow_nonneg (by omega)), Int.pow_succ]; rfl
    · rw [w64 (by omega)]; rfl
    · rw [le_succ, wrap_u8]; simp [bE]
  · obtain rfl : j = i.k := by omega
    exact ⟨(), rfl, trivial⟩

theorem put_ok : putC.ok Try.prog 95 := byput gok0 vput

end Sx
