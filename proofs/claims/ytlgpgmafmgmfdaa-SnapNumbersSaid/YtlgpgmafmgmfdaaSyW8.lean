/- SnapNumbers: contracts. No condition. -/
import Derived.Test.YtlgpgmafmgmfdaaSyP7d
set_option linter.unusedVariables false
namespace Sx
open Go Cv Go.Proofs
open Classical

def snapC : Con := con1 Unit (fun _ => []) (fun _ => []) (fun _ => True) (fun _ => boolV true) (fun _ => [])
def sRow : AObj := .cells [.own 1, i64V 0, i64V 0, i64V 0, boolV false, .d (.v (.slice none 0 0)), i64V (-5), i64V 1, i64V 1, boolV true] 27
def lvN (k : Nat) : Lv := ⟨500 - k, 1, 1⟩
def l8 (k : Nat) : List Lv := (List.range k).map lvN ++ List.replicate (256 - k) ⟨0, 0, 0⟩
def l9 (k : Nat) : List Lv := (List.range k).map lvN
def snapA : List SAnn := [
  { ι := Nat, slots := fun k => [(1, i64V k)], rows := fun _ => [] },
  { ι := Nat, slots := fun k => [(2, .nm 0 0), (3, i64V k)], rows := fun k => [sRow, .own 24 3 ((l8 k).map lvE)] },
  { ι := Nat, slots := fun k => [(2, .nm 0 0), (4, i64V k)], rows := fun k => [sRow, .own 24 3 ((l9 k).map lvE)] }]
def snapJ : List (Nat × SAnn) := [(34, { ι := Sd × Sd, slots := fun _ => [(2, .nm 0 0)], slots0 := fun _ => [(2, .nm 0 0)], rows0 := fun _ => [sRow, .own 24 3 (([⟨9, 3, 1⟩, ⟨5, 4, 2⟩] : List Lv).map lvE)], rows := fun x => [.cells [roV 3 (x.1.levels.map lvE), i64V x.1.imp.price, i64V x.1.imp.qty, i64V x.1.imp.count, boolV x.1.has, roV 3 (x.2.levels.map lvE), i64V x.2.imp.price, i64V x.2.imp.qty, i64V x.2.imp.count, boolV x.2.has] 27] })]

end Sx
