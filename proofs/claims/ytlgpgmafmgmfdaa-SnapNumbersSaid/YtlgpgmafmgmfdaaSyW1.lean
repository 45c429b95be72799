/- wire's writer: contracts. -/
import Derived.Test.YtlgpgmafmgmfdaaSyW0
import Derived.Test.YtlgpgmafmgmfdaaRows
set_option linter.unusedVariables false
namespace Sx
open Go Cv Go.Proofs

def WrU (l : List UInt8) : Nat → AObj
  | 0 => .cells [.own 1] 189
  | 1 => .own 5 1 (bE l)
  | _ => .gone
def Wr (l : List UInt8) : AObj := .adt (List UInt8) 2 WrU l

structure PutI where
  l : List UInt8
  n : Int
  k : Nat

def putC : Con where
  ι := PutI
  pat := fun i => [.nm 0 0, .d (.v (.int .u64 i.n)), .d (.v (.int .i64 i.k))]
  pre := fun i => [Wr i.l]
  cnd := fun i => 0 ≤ i.n ∧ i.n < 18446744073709551616 ∧ i.l.length + i.k ≤ 1099511627776
  alts := fun i => [{ o := Unit, res := fun _ => .tup [], post := fun _ => [Wr (i.l ++ le i.n i.k)], rel := fun _ => True }]

theorem mixed : Try.prog.follows .mixedOrders = true := by kernel_rfl

def putA (i : PutI) : List SAnn := [{
  ι := Nat,
  slots := fun j => [(0, .nm 0 0), (1, .d (.v (.int .u64 (i.n / 256 ^ j)))), (7, .d (.v (.int .i64 j)))],
  rows := fun j => [WrU (i.l ++ le i.n j) 0, WrU (i.l ++ le i.n j) 1] }]

end Sx
