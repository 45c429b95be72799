/- Views, and their bytes: contracts. No condition. -/
import Derived.Test.YtlgpgmafmgmfdaaSyP2
set_option linter.unusedVariables false
namespace Sx
open Go Cv Go.Proofs
open Classical

structure Lv where
  price : Int
  qty : Int
  count : Int
structure Sd where
  levels : List Lv
  imp : Lv
  has : Bool
@[reducible] def Vw := List (Sd × Sd)

def lvE (l : Lv) : List D := [.v (.int .i64 l.price), .v (.int .i64 l.qty), .v (.int .i64 l.count)]
def bothE (b : Sd × Sd) : List D := [.ro 3 (b.1.levels.map lvE), .v (.int .i64 b.1.imp.price), .v (.int .i64 b.1.imp.qty), .v (.int .i64 b.1.imp.count), .v (.bool b.1.has),
  .ro 3 (b.2.levels.map lvE), .v (.int .i64 b.2.imp.price), .v (.int .i64 b.2.imp.qty), .v (.int .i64 b.2.imp.count), .v (.bool b.2.has)]
def lvV (l : Lv) : V := .agg [i64V l.price, i64V l.qty, i64V l.count]
def sdV (s : Sd) : V := .agg [roV 3 (s.levels.map lvE), i64V s.imp.price, i64V s.imp.qty, i64V s.imp.count, boolV s.has]
def vwV (v : Vw) : V := .agg [roV 10 (v.map bothE)]

def betterB (side x y : Int) : Bool := if side = 1 then decide (y < x) else decide (x < y)
structure I3 where
  side : Int
  x : Int
  y : Int
def betterC : Con := con1 I3 (fun i => [i64V i.side, i64V i.x, i64V i.y]) (fun _ => []) (fun _ => True) (fun i => boolV (betterB i.side i.x i.y)) (fun _ => [])

/-- What holds of each level of a side. -/
def LvAt (side : Int) (l : List Lv) (i : Nat) : Prop := ∀ a, l[i]? = some a → 1 ≤ a.qty ∧ 1 ≤ a.count ∧ ∀ j b, i = j + 1 → l[j]? = some b → betterB side b.price a.price = true
def SdRight (side : Int) (s : Sd) : Prop := (∀ i, LvAt side s.levels i) ∧ s.levels.length ≤ 255 ∧ (s.has = true → 1 ≤ s.imp.qty ∧ 1 ≤ s.imp.count) ∧ (s.has = false → s.imp = ⟨0, 0, 0⟩)
def VwRight (v : Vw) : Prop := (∀ b ∈ v, SdRight 1 b.1 ∧ SdRight 2 b.2) ∧ v.length ≤ 255
noncomputable def sdRight (side : Int) (s : Sd) : Bool := decide (SdRight side s)
noncomputable def vwRight (v : Vw) : Bool := decide (VwRight v)

structure SdI where
  side : Int
  s : Sd
noncomputable def rightC : Con := con1 SdI (fun i => [i64V i.side, sdV i.s]) (fun _ => []) (fun i => i.s.levels.length ≤ 1099511627776) (fun i => boolV (sdRight i.side i.s)) (fun _ => [])
def rightA : List SAnn := [{ ι := Nat, slots := fun j => [(10, i64V j)], rows := fun _ => [] }]
@[reducible] def VwSmall (v : Vw) : Prop := v.length ≤ 1099511627776 ∧ ∀ b ∈ v, b.1.levels.length ≤ 1099511627776 ∧ b.2.levels.length ≤ 1099511627776
noncomputable def rightVC : Con := con1 Vw (fun v => [vwV v]) (fun _ => []) VwSmall (fun v => boolV (vwRight v)) (fun _ => [])
def rightVA : List SAnn := [{ ι := Nat, slots := fun j => [(8, i64V j)], rows := fun _ => [] }]

def encLv (l : Lv) : List UInt8 := le l.price 8 ++ le l.qty 8 ++ le l.count 8
structure PutL where
  l : List UInt8
  v : Lv
def putLC : Con := con1 PutL (fun i => [.nm 0 0, lvV i.v]) (fun i => [Wr i.l]) (fun i => i.l.length + 24 ≤ 1099511627776) (fun _ => unitV) (fun i => [Wr (i.l ++ encLv i.v)])

def encSd (s : Sd) : List UInt8 := [lob s.levels.length] ++ s.levels.flatMap encLv ++ (if s.has then [lob 1] ++ encLv s.imp else [lob 0])
def encBoth (b : Sd × Sd) : List UInt8 := encSd b.1 ++ encSd b.2
def encBody (v : Vw) (seq : Int) : List UInt8 := le seq 8 ++ [lob v.length] ++ v.flatMap encBoth
noncomputable def encOut (v : Vw) (seq : Int) : List UInt8 := if VwRight v then encBody v seq ++ le (crcOf (encBody v seq)) 4 else []
noncomputable def encErr (v : Vw) : Int := if VwRight v then 0 else 12
structure EncI where
  v : Vw
  seq : Int
noncomputable def encC : Con := con1 EncI (fun i => [vwV i.v, i64V i.seq]) (fun _ => []) (fun i => VwSmall i.v) (fun i => .tup [roV 1 (bE (encOut i.v i.seq)), i64V (encErr i.v)]) (fun _ => [])
def encA (i : EncI) : List SAnn := [
  { ι := Nat, slots := fun j => [(6, .nm 0 0), (28, i64V j)], rows := fun j => [Wr (le i.seq 8 ++ [lob i.v.length] ++ (i.v.take j).flatMap encBoth)] },
  { ι := Unit, slots := fun _ => [], rows := fun _ => [], un := 3 },
  { ι := List UInt8 × List Lv × Nat, slots := fun x => [(6, .nm 0 0), (44, i64V x.2.2)], rows := fun x => [Wr (x.1 ++ (x.2.1.take x.2.2).flatMap encLv)] }]

end Sx
