/- The reference's views, and the law's: contracts. No condition. -/
import Derived.Test.YtlgpgmafmgmfdaaSyP6
set_option linter.unusedVariables false
namespace Sx
open Go Cv Go.Proofs
open Classical

def fencA (i : EncI) : List SAnn := [
  { ι := Nat, slots := fun j => [(6, .own 0), (7, i64V j)], rows := fun j => [.own tU8 1 (bE (le i.seq 8 ++ [lob i.v.length] ++ (i.v.take j).flatMap encBoth))] },
  { ι := Unit, slots := fun _ => [], rows := fun _ => [], un := 3 },
  { ι := List UInt8 × List Lv × Nat, slots := fun x => [(6, .own 0), (10, i64V x.2.2)], rows := fun x => [.own tU8 1 (bE (x.1 ++ (x.2.1.take x.2.2).flatMap encLv))] }]
def fencJ : List (Nat × SAnn) := [(15, { ι := List UInt8, slots := fun _ => [(6, .own 0)], slots0 := fun _ => [(6, .own 0)], rows0 := fun l => [.own tU8 1 (bE l)], rows := fun l => [.own tU8 1 (bE l)] })]
noncomputable def fencC : Con := con1 EncI (fun i => [vwV i.v, i64V i.seq]) (fun _ => []) (fun i => VwSmall i.v) (fun i => .tup [roV 1 (bE (encOut i.v i.seq)), i64V (encErr i.v)]) (fun _ => [])

structure DS where
  q : QN
  a : Sd
  b : Sd
  fine : Bool
  n : Int
def tLv9 : Nat := 121
def DS.rows (d : DS) : List AObj := [d.q.row, .cells [.own 2, i64V d.a.imp.price, i64V d.a.imp.qty, i64V d.a.imp.count, boolV d.a.has, .own 3, i64V d.b.imp.price, i64V d.b.imp.qty, i64V d.b.imp.count, boolV d.b.has] 124, .own 121 3 (d.a.levels.map lvE), .own 121 3 (d.b.levels.map lvE)]
structure DV where
  q : QN
  v : Vw
  fine : Bool
  n : Int
noncomputable def fdecC : Con := con1 (List UInt8) (fun b => [roV 1 (bE b)]) (fun _ => []) (fun b => b.length ≤ 1099511627776) (fun b => .tup [vwV (decV b), i64V (decN b), i64V (decE b)]) (fun _ => [])
def fdecA : List SAnn := [
  { ι := DV, slots := fun d => [(7, .nm 0 0), (9, .nm 1 0), (10, boolV d.fine), (11, i64V d.n)], rows := fun d => [d.q.row, .cells [.own 2] 39, .own 124 10 (d.v.map bothE)] },
  { ι := Unit, slots := fun _ => [], rows := fun _ => [], un := 3 },
  { ι := DS, slots := fun d => [(7, .nm 0 0), (12, .nm 1 0), (14, i64V d.n)], rows := DS.rows }]
def DV.rows (d : DV) : List AObj := [d.q.row, .cells [.own 2] 39, .own 124 10 (d.v.map bothE)]
def fdecJ : List (Nat × SAnn) := [
  (15, { ι := DS, slots := fun d => [(7, .nm 0 0), (12, .nm 1 0), (10, boolV d.fine)], slots0 := fun d => [(7, .nm 0 0), (12, .nm 1 0)], rows0 := DS.rows, rows := DS.rows }),
  (74, { ι := DS, slots := fun d => [(7, .nm 0 0), (12, .nm 1 0)], slots0 := fun d => [(7, .nm 0 0), (12, .nm 1 0)], rows0 := DS.rows, rows := DS.rows }),
  (46, { ι := DV, slots := fun d => [(7, .nm 0 0), (9, .nm 1 0), (10, boolV d.fine)], slots0 := fun d => [(7, .nm 0 0), (9, .nm 1 0)], rows0 := DV.rows, rows := DV.rows }),
  (92, joinB 10)]

structure V2 where
  v : Vw
  w : Vw
noncomputable def sameB (v w : Vw) : Bool := decide (v = w)
noncomputable def sameC : Con := con1 V2 (fun i => [vwV i.v, vwV i.w]) (fun _ => []) (fun i => VwSmall i.v ∧ VwSmall i.w) (fun i => boolV (sameB i.v i.w)) (fun _ => [])
def sameA : List SAnn := [
  { ι := Nat, slots := fun j => [(5, i64V j)], rows := fun _ => [] },
  { ι := Unit, slots := fun _ => [], rows := fun _ => [], un := 3 },
  { ι := Nat, slots := fun j => [(9, i64V j)], rows := fun _ => [] }]

structure S2 where
  a : Sd
  b : Sd
def sdRow (s : Sd) : AObj := .cells [roV 3 (s.levels.map lvE), i64V s.imp.price, i64V s.imp.qty, i64V s.imp.count, boolV s.has] 123
def sameJ : List (Nat × SAnn) := [(36, { ι := S2, slots := fun d => [(7, .nm 0 0), (8, .nm 1 0)], rows := fun d => [sdRow d.a, sdRow d.b] })]
def llvC : Con := con1 Lv (fun l => [lvV l]) (fun _ => []) (fun _ => True) (fun l => lvV l) (fun _ => [])
structure InI where
  a : Sd
  b : Sd
  k : Nat
def VwTiny (v : Vw) : Prop := v.length ≤ 1000000000 ∧ ∀ b ∈ v, b.1.levels.length ≤ 1000000000 ∧ b.2.levels.length ≤ 1000000000
def inC : Con := con1 Vw (fun v => [vwV v]) (fun _ => []) VwTiny (fun v => vwV v) (fun _ => [])
def inA (v : Vw) : List SAnn := [
  { ι := Nat, slots := fun j => [(3, .nm 0 0), (4, i64V j)], rows := fun j => [.cells [.own 1] 39, .own 124 10 ((v.take j).map bothE)] },
  { ι := Unit, slots := fun _ => [], rows := fun _ => [], un := 3 },
  { ι := InI, slots := fun d => [(5, .nm 0 0), (8, i64V d.k)], rows := fun d => [.cells [.own 1, i64V d.a.imp.price, i64V d.a.imp.qty, i64V d.a.imp.count, boolV d.a.has, .own 2, i64V d.b.imp.price, i64V d.b.imp.qty, i64V d.b.imp.count, boolV d.b.has] 124, .own 121 3 (d.a.levels.map lvE), .own 121 3 (d.b.levels.map lvE)] }]

def readC : Con := con1 (List UInt8) (fun b => [roV 1 (bE b)]) (fun _ => []) (fun b => b.length ≤ 1099511627776) (fun _ => boolV true) (fun _ => [])
def knownC : Con := con1 Unit (fun _ => []) (fun _ => []) (fun _ => True) (fun _ => boolV true) (fun _ => [])

end Sx
