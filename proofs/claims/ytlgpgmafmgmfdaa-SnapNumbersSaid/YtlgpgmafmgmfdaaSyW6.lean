/- The reference's bytes, and its reader: contracts. No condition. -/
import Derived.Test.YtlgpgmafmgmfdaaSyP5
set_option linter.unusedVariables false
namespace Sx
open Go Cv Go.Proofs
open Classical

structure QN where
  B : List UInt8
  p : Nat
  b : Bool
def QN.r (q : QN) : RB := ⟨q.B.drop q.p, q.b⟩
def QN.take (q : QN) (n : Nat) : QN := ⟨q.B, if (q.r.n n).bad then q.p else q.p + n, (q.r.n n).bad⟩
def QN.row (q : QN) : AObj := .cells [roV 1 (bE q.B), i64V q.p, i64V (if q.b then 10 else 0)] 202
@[reducible] def QN.ok (q : QN) : Prop := q.p ≤ q.B.length ∧ q.B.length ≤ 1099511627776
def QN.lv (q : QN) : QN := ((q.take 8).take 8).take 8

structure QI where
  q : QN
  n : Nat
def qtakeC : Con := con1 QI (fun i => [.nm 0 0, i64V i.n]) (fun i => [i.q.row]) (fun i => i.q.ok ∧ i.n ≤ 255) (fun i => roV 1 (bE (i.q.r.n i.n).got)) (fun i => [(i.q.take i.n).row])
def qbyteC : Con := con1 QN (fun i => [.nm 0 0]) (fun i => [i.row]) QN.ok (fun i => i64V i.r.byte.1) (fun i => [(i.take 1).row])
def qlongC : Con := con1 QN (fun i => [.nm 0 0]) (fun i => [i.row]) QN.ok (fun i => i64V i.r.long.1) (fun i => [(i.take 8).row])
def qlongA (i : QN) : List SAnn := [{ ι := Nat, slots := fun j => [(4, u64V (ofLe ((i.r.n 8).got.take j))), (5, i64V j)], rows := fun _ => [] }]
def qendC : Con := con1 QN (fun i => [.nm 0 0]) (fun i => [i.row]) QN.ok (fun i => i64V i.r.endOf) (fun i => [i.row])
def qlvC : Con := con1 QN (fun i => [.nm 0 0]) (fun i => [i.row]) QN.ok (fun i => lvV i.r.lv.1) (fun i => [i.lv.row])

def fbyteC : Con := con1 WN (fun i => [roV 1 (bE i.l), i64V i.n]) (fun _ => []) WN.ok (fun _ => .own 0) (fun i => [.own tU8 1 (bE (i.l ++ [lob i.n]))])
def flongC : Con := con1 WN (fun i => [roV 1 (bE i.l), i64V i.n]) (fun _ => []) WN.ok (fun _ => .own 0) (fun i => [.own tU8 1 (bE (i.l ++ le i.n 8))])
def flongA (i : WN) : List SAnn := [{ ι := Nat, slots := fun j => [(5, .own 0), (6, u64V ((8 * j : Nat) : Int))], rows := fun j => [.own tU8 1 (bE (i.l ++ le i.n j))] }]
def flvC : Con := con1 PutL (fun i => [roV 1 (bE i.l), lvV i.v]) (fun _ => []) (fun i => i.l.length + 24 ≤ 1099511627776) (fun _ => .own 0) (fun i => [.own tU8 1 (bE (i.l ++ encLv i.v))])

def fcrcC : Con := con1 (List UInt8) (fun l => [roV 1 (bE l)]) (fun _ => []) (fun l => l.length ≤ 1099511627776) (fun l => u32V (crcOf l)) (fun _ => [])
def fcrcO : Con := con1 (List UInt8) (fun _ => [.own 0]) (fun l => [.own tU8 1 (bE l)]) (fun l => l.length ≤ 1099511627776) (fun l => u32V (crcOf l)) (fun l => [.own tU8 1 (bE l)])
def fcrcA (l : List UInt8) : List SAnn := [
  { ι := Nat, slots := fun i => [(3, u32V (crcS (l.take i))), (4, i64V i)], rows := fun _ => [] },
  { ι := Int × Nat, slots := fun i => [(3, u32V (crcBits i.2 i.1)), (5, i64V i.2)], rows := fun _ => [] }]

def rbetterC : Con := con1 I3 (fun i => [i64V i.side, i64V i.x, i64V i.y]) (fun _ => []) (fun _ => True) (fun i => boolV (betterB i.side i.x i.y)) (fun _ => [])
noncomputable def rrightC : Con := con1 Vw (fun v => [vwV v]) (fun _ => []) VwSmall (fun v => boolV (vwRight v)) (fun _ => [])
def rrightA : List SAnn := [
  { ι := Nat, slots := fun j => [(3, i64V j)], rows := fun _ => [] },
  { ι := Unit, slots := fun _ => [], rows := fun _ => [], un := 3 },
  { ι := Nat, slots := fun j => [(6, i64V j)], rows := fun _ => [] }]
def joinB (t : Nat) : SAnn := { ι := Bool, slots := fun b => [(t, boolV b)], rows := fun _ => [] }
def rrightJ : List (Nat × SAnn) := [(40, joinB 61)]

end Sx
