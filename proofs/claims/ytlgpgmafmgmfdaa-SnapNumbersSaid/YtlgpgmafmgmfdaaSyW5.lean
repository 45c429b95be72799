/- Views, read from bytes: contracts. No condition. -/
import Derived.Test.YtlgpgmafmgmfdaaSyP4
set_option linter.unusedVariables false
namespace Sx
open Go Cv Go.Proofs
open Classical

def RB.byte (r : RB) : Int × RB := (ofLe (r.n 1).got, ⟨(r.n 1).left, (r.n 1).bad⟩)
def RB.long (r : RB) : Int × RB := (IntKind.i64.wrap (ofLe (r.n 8).got), ⟨(r.n 8).left, (r.n 8).bad⟩)
def RB.lv (r : RB) : Lv × RB := (⟨r.long.1, r.long.2.long.1, r.long.2.long.2.long.1⟩, r.long.2.long.2.long.2)
def RB.lvs (r : RB) : Nat → List Lv × RB
  | 0 => ([], r)
  | k + 1 => ((r.lvs k).1 ++ [(r.lvs k).2.lv.1], (r.lvs k).2.lv.2)
/-- A side's levels; behind them. -/
def RB.part (r : RB) : List Lv × RB := r.byte.2.lvs r.byte.1.toNat
def RB.side (r : RB) : (Sd × Bool) × RB :=
  if r.part.2.byte.1 = 1 then ((⟨r.part.1, r.part.2.byte.2.lv.1, true⟩, true), r.part.2.byte.2.lv.2)
  else ((⟨r.part.1, ⟨0, 0, 0⟩, false⟩, decide (r.part.2.byte.1 ≤ 1)), r.part.2.byte.2)
def RB.views (r : RB) : Nat → (Vw × Bool) × RB
  | 0 => (([], true), r)
  | k + 1 => (((r.views k).1.1 ++ [((r.views k).2.side.1.1, (r.views k).2.side.2.side.1.1)], (r.views k).1.2 && (r.views k).2.side.1.2 && (r.views k).2.side.2.side.1.2), (r.views k).2.side.2.side.2)
def RB.head (r : RB) : Int × RB := r.long.2.byte
def RB.all (r : RB) : (Vw × Bool) × RB := r.head.2.views r.head.1.toNat
def RB.endOf (r : RB) : Int := if r.b then 10 else if 0 < r.l.length then 15 else 0

@[reducible] def RdB (r : RB) : AObj := Rd r.l r.b
@[reducible] def RB.ok (i : RB) : Prop := i.l.length ≤ 1099511627776

def lgetC : Con := con1 RB (fun i => [.nm 0 0]) (fun i => [RdB i]) RB.ok (fun i => lvV i.lv.1) (fun i => [RdB i.lv.2])
def sideC : Con := con1 RB (fun i => [.nm 0 0]) (fun i => [RdB i]) RB.ok (fun i => .tup [sdV i.side.1.1, boolV i.side.1.2]) (fun i => [RdB i.side.2])
def sideA (i : RB) : List SAnn := [{ ι := Nat, slots := fun j => [(0, .nm 0 0), (4, .nm 1 0), (8, i64V j)], rows := fun j => [RdB (i.byte.2.lvs j).2, .cells [.own 2, i64V 0, i64V 0, i64V 0, boolV false] 26, .own 24 3 ((i.byte.2.lvs j).1.map lvE)] }]

/-- What bytes are read as: a view, its number, a refusal. -/
def sumFits (b : List UInt8) : Prop := 4 ≤ b.length ∧ le (crcOf (b.take (b.length - 4))) 4 = b.drop (b.length - 4)
def bodyRB (b : List UInt8) : RB := ⟨b.take (b.length - 4), false⟩
def formFits (b : List UInt8) : Prop := (bodyRB b).all.1.2 = true ∧ (bodyRB b).all.2.endOf = 0 ∧ VwRight (bodyRB b).all.1.1
noncomputable def decV (b : List UInt8) : Vw := if sumFits b ∧ formFits b then (bodyRB b).all.1.1 else []
noncomputable def decN (b : List UInt8) : Int := if sumFits b ∧ formFits b then (bodyRB b).long.1 else 0
noncomputable def decE (b : List UInt8) : Int := if sumFits b then if formFits b then 0 else 12 else 14

noncomputable def decC : Con := con1 (List UInt8) (fun b => [roV 1 (bE b)]) (fun _ => []) (fun b => b.length ≤ 1099511627776) (fun b => .tup [vwV (decV b), i64V (decN b), i64V (decE b)]) (fun _ => [])
def decA (b : List UInt8) : List SAnn := [
  { ι := Nat, slots := fun j => [(7, .nm 0 0), (9, .nm 1 0), (10, boolV ((bodyRB b).head.2.views j).1.2), (44, i64V j)], rows := fun j => [RdB ((bodyRB b).head.2.views j).2, .cells [.own 2] 30, .own 27 10 (((bodyRB b).head.2.views j).1.1.map bothE)] },
  { ι := Unit, slots := fun _ => [], rows := fun _ => [], un := 3 }]

end Sx
