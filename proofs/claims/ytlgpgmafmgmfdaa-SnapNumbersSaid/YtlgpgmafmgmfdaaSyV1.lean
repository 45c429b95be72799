/- PRINTED BY A PROGRAM OF OURS: the conditions of walks. -/
import Derived.Test.YtlgpgmafmgmfdaaSyW1
set_option linter.unusedVariables false
set_option maxRecDepth 100000
namespace Sx
open Go Cv Go.Proofs
def Vput (i : PutI) : Prop :=
  ∃ (i0 : Nat), i.n / (256 : Int) ^ i0 = i.n ∧ (↑i0 : Int) = (0 : Int) ∧ bE (i.l ++ le i.n i0) = bE i.l ∧ ∃ (I : Nat → Prop), ∃ (μ : Nat → Nat), I i0 ∧ ∀ (i_1 : Nat), I i_1 → cnd (decide ((↑i_1 : Int) < (↑i.k : Int))) (((bE (i.l ++ le i.n i_1)).length + (1 : Nat)) * (1 : Nat) ≤ (70368744177664 : Nat) ∧ (0 : Int) ≤ (8 : Int) ∧ ∃ (i' : Nat), i.n / (256 : Int) ^ i' = iShr IntKind.u64 (i.n / (256 : Int) ^ i_1) (8 : Int) ∧ (↑i' : Int) = IntKind.i64.wrap ((↑i_1 : Int) + (1 : Int)) ∧ bE (i.l ++ le i.n i') = bE (i.l ++ le i.n i_1) ++ [[D.v (Value.int IntKind.u8 (IntKind.u8.wrap (i.n / (256 : Int) ^ i_1)))]] ∧ I i' ∧ μ i' < μ i_1 ∧ True) (∃ (o : Unit), bE (i.l ++ le i.n i.k) = bE (i.l ++ le i.n i_1) ∧ True)
theorem eqput (i : PutI) : Vput i = walk Try.prog ([]) 0 ([]) (putA i) [0] Try.f95 (Try.f95.body.getD .skip) (putC.pat i) (putC.pre i) (putC.alts i) := by kernel_rfl

theorem byput (hG : GOk Try.prog ([])) (h : ∀ (i : PutI), putC.cnd i → Vput i) : putC.ok Try.prog 95 := ok_of_walk mixed ([]) hG 0 (fun (i : PutI) => []) (fun (i : PutI) => putA i) [0] Try.func95 (by kernel_rfl) (by kernel_rfl) (by kernel_rfl) (fun _ => by kernel_rfl) (fun (i : PutI) hc => Eq.mp (eqput i) (h i hc))

end Sx
