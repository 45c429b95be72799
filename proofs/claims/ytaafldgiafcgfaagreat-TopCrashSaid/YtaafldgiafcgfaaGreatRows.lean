/-
  No cell of these rows narrows 'for every input' (looked for: loops, veiled, ifaces, maps, wideKeys, modest, calm, conditions, laid).
  DERIVED. THE GIVEN ROWS OF THIS SEAT. 5 by the template 'for every input the law returns true; each argument reads behind the call as it read before'; 0 by the template 'total and deterministic' (their statements: YtaafldgiafcgfaaGreatTotals.lean).
  GIVEN WITH THE SEED: the statements are not yours to turn. If you find one false, say at which input.
  Laid BY PROGRAM, IN A SANDBOX (cutbox-rows.mjs): the forced cells as the released guide's own fill.sh prints them over the translation 529a17224e70d2e2… (all of the seat's roots in one cut). By AI agents, Wed Nov 11 2026. No macro, syntax, notation, axiom, sorry.
-/
import Derived.Test.YtaafldgiafcgfaaGreatChecked
import GoSem.Claim
import GoSem.ClaimJoined
import GoSem.ClaimMapViews
import Derived.JoinedTies
import Derived.KernelRfl
namespace Go.Proofs.YtaafldgiafcgfaaGreat
/- THE CELL 'sum', in the pinned program and in every row, IS THE sha256 OF THE DUMP (.gsa) THAT YtaafldgiafcgfaaGreatProg.lean LOADS. Nothing in Lean hashes anything: it is a label: what it is worth is what the hold of that sum in a sandbox is worth. -/
noncomputable def Tryz.pinned : Pinned := { name := "ytaafldgiafcgfaagreat", sum := "529a17224e70d2e25342911ee04421058ab9c7d8b9444b4a0845a689bc6624b5", checked := Tryz.checked }
namespace Rows
def none {H : Type} : Left H := { results := [], args := [] }

/-- 'cornhilltop.TopCrash': WHATEVER THE INPUT: true; the input reads as it did. -/
def topCrashSpec : ChangeSpec := { name := "topCrash", fn := fun _ => fun
  | [d1, d2, d3, d4, d5] => { results := [.lit (.bool true)], args := [d1, d2, d3, d4, d5] }
  | _ => none }
def topCrashRow : OpenClaim := { program := "ytaafldgiafcgfaagreat", sum := "529a17224e70d2e25342911ee04421058ab9c7d8b9444b4a0845a689bc6624b5", func := "cornhill/cornhilltop.TopCrash", spec := "topCrash", inPlace := ["maps.clone", "math/bits.Add64", "slices.overlaps[cornhill/book.rung]"], unfollowed := true, recurses := true, named := ["math/bits.divideError", "math/bits.overflowError"], apart := false }
def TopCrashSaid : Prop := topCrashRow.holds Tryz.pinned (OpenSpec.ofChange topCrashSpec)

/-- ITS FALSE NEIGHBOUR: 'it returns false'. Refute it at one input. -/
def topCrashWrong : ChangeSpec := { name := "topCrash", fn := fun _ => fun
  | [d1, d2, d3, d4, d5] => { results := [.lit (.bool false)], args := [d1, d2, d3, d4, d5] }
  | _ => none }
def TopCrashWrongFalsely : Prop := topCrashRow.holds Tryz.pinned (OpenSpec.ofChange topCrashWrong)

/-- 'cornhilltop.TopNothing': WHATEVER THE INPUT: true; the input reads as it did. -/
def topNothingSpec : ChangeSpec := { name := "topNothing", fn := fun _ => fun
  | [d1, d2, d3] => { results := [.lit (.bool true)], args := [d1, d2, d3] }
  | _ => none }
def topNothingRow : OpenClaim := { program := "ytaafldgiafcgfaagreat", sum := "529a17224e70d2e25342911ee04421058ab9c7d8b9444b4a0845a689bc6624b5", func := "cornhill/cornhilltop.TopNothing", spec := "topNothing", inPlace := ["maps.clone", "math/bits.Add64", "slices.overlaps[cornhill/book.rung]"], unfollowed := true, recurses := true, named := ["math/bits.divideError", "math/bits.overflowError"], apart := false }
def TopNothingSaid : Prop := topNothingRow.holds Tryz.pinned (OpenSpec.ofChange topNothingSpec)

/-- ITS FALSE NEIGHBOUR: 'it returns false'. Refute it at one input. -/
def topNothingWrong : ChangeSpec := { name := "topNothing", fn := fun _ => fun
  | [d1, d2, d3] => { results := [.lit (.bool false)], args := [d1, d2, d3] }
  | _ => none }
def TopNothingWrongFalsely : Prop := topNothingRow.holds Tryz.pinned (OpenSpec.ofChange topNothingWrong)

/-- 'cornhilltop.TopSnaps': WHATEVER THE INPUT: true; the input reads as it did. -/
def topSnapsSpec : ChangeSpec := { name := "topSnaps", fn := fun _ => fun
  | [d1, d2, d3] => { results := [.lit (.bool true)], args := [d1, d2, d3] }
  | _ => none }
def topSnapsRow : OpenClaim := { program := "ytaafldgiafcgfaagreat", sum := "529a17224e70d2e25342911ee04421058ab9c7d8b9444b4a0845a689bc6624b5", func := "cornhill/cornhilltop.TopSnaps", spec := "topSnaps", inPlace := ["maps.clone", "math/bits.Add64", "slices.overlaps[cornhill/book.rung]"], unfollowed := true, recurses := true, named := ["math/bits.divideError", "math/bits.overflowError"], apart := false }
def TopSnapsSaid : Prop := topSnapsRow.holds Tryz.pinned (OpenSpec.ofChange topSnapsSpec)

/-- ITS FALSE NEIGHBOUR: 'it returns false'. Refute it at one input. -/
def topSnapsWrong : ChangeSpec := { name := "topSnaps", fn := fun _ => fun
  | [d1, d2, d3] => { results := [.lit (.bool false)], args := [d1, d2, d3] }
  | _ => none }
def TopSnapsWrongFalsely : Prop := topSnapsRow.holds Tryz.pinned (OpenSpec.ofChange topSnapsWrong)

/-- 'cornhilllaw24.EngineNumbers': WHATEVER THE INPUT: true; the input reads as it did. -/
def engineNumbersSpec : ChangeSpec := { name := "engineNumbers", fn := fun _ => fun
  | [] => { results := [.lit (.bool true)], args := [] }
  | _ => none }
def engineNumbersRow : OpenClaim := { program := "ytaafldgiafcgfaagreat", sum := "529a17224e70d2e25342911ee04421058ab9c7d8b9444b4a0845a689bc6624b5", func := "cornhill/cornhilllaw24.EngineNumbers", spec := "engineNumbers", inPlace := ["maps.clone", "math/bits.Add64", "slices.overlaps[cornhill/book.rung]"], unfollowed := true, recurses := true, named := ["math/bits.divideError", "math/bits.overflowError"], apart := false }
def EngineNumbersSaid : Prop := engineNumbersRow.holds Tryz.pinned (OpenSpec.ofChange engineNumbersSpec)

/-- ITS FALSE NEIGHBOUR: 'it returns false'. Refute it at one input. -/
def engineNumbersWrong : ChangeSpec := { name := "engineNumbers", fn := fun _ => fun
  | [] => { results := [.lit (.bool false)], args := [] }
  | _ => none }
def EngineNumbersWrongFalsely : Prop := engineNumbersRow.holds Tryz.pinned (OpenSpec.ofChange engineNumbersWrong)

/-- 'cornhilltop.TopInOrder': WHATEVER THE INPUT: true; the input reads as it did. -/
def topInOrderSpec : ChangeSpec := { name := "topInOrder", fn := fun _ => fun
  | [d1, d2, d3] => { results := [.lit (.bool true)], args := [d1, d2, d3] }
  | _ => none }
def topInOrderRow : OpenClaim := { program := "ytaafldgiafcgfaagreat", sum := "529a17224e70d2e25342911ee04421058ab9c7d8b9444b4a0845a689bc6624b5", func := "cornhill/cornhilltop.TopInOrder", spec := "topInOrder", inPlace := ["maps.clone", "math/bits.Add64", "slices.overlaps[cornhill/book.rung]"], unfollowed := true, recurses := true, named := ["math/bits.divideError", "math/bits.overflowError"], apart := false }
def TopInOrderSaid : Prop := topInOrderRow.holds Tryz.pinned (OpenSpec.ofChange topInOrderSpec)

/-- ITS FALSE NEIGHBOUR: 'it returns false'. Refute it at one input. -/
def topInOrderWrong : ChangeSpec := { name := "topInOrder", fn := fun _ => fun
  | [d1, d2, d3] => { results := [.lit (.bool false)], args := [d1, d2, d3] }
  | _ => none }
def TopInOrderWrongFalsely : Prop := topInOrderRow.holds Tryz.pinned (OpenSpec.ofChange topInOrderWrong)

/- THE SECOND FORM. 'bulk': how many values and letters a reading holds, each counted each time it is reached (what is shared counts as often as it is met; a slice's spare places count too). A statement '..UptoSaid' is the law's where the arguments, and the package variables that the reading takes, are together of bulk at most 1048576: NARROWER than '..Said'. Prove '..Said' where nothing that the law and all that it calls make is longer than what came in: it says more and counts as full. Else prove '..UptoSaid'. A law counts once. -/
mutual
def uptoBulk {H : Type} : DataW H → Nat
  | .lit (.string bytes) => bytes.length + 1
  | .lit _ => 1
  | .nil => 1
  | .ptr d => uptoBulk d + 1
  | .slice elems spare => uptoBulkAll elems + uptoBulkAll spare + 1
  | .agg parts => uptoBulkAll parts + 1
  | .iface _ d => uptoBulk d + 1
  | .map entries => uptoBulkEntries entries + 1
  | .held _ => 1
def uptoBulkAll {H : Type} : List (DataW H) → Nat
  | [] => 0
  | d :: r => uptoBulk d + uptoBulkAll r
def uptoBulkEntries {H : Type} : List (Lit × DataW H) → Nat
  | [] => 0
  | x :: r => uptoBulkEntry x + uptoBulkEntries r
def uptoBulkEntry {H : Type} : Lit × DataW H → Nat
  | (.string bytes, d) => bytes.length + uptoBulk d + 1
  | (_, d) => uptoBulk d + 1
 end
def uptoSmall : (H : Type) → List (DataW H) → Bool := fun _ ds => decide (uptoBulkAll ds ≤ 1048576)
def OpenSpec.upto (s : _root_.Go.ChangeSpec) : _root_.Go.OpenSpec := { _root_.Go.OpenSpec.ofChange s with cond := some uptoSmall }

/-- 'cornhilltop.TopCrash', WHERE WHAT IT READS IS OF BULK AT MOST 1048576: true; the input reads as it did. -/
def topCrashUptoRow : OpenClaim := { program := "ytaafldgiafcgfaagreat", sum := "529a17224e70d2e25342911ee04421058ab9c7d8b9444b4a0845a689bc6624b5", func := "cornhill/cornhilltop.TopCrash", spec := "topCrash", inPlace := ["maps.clone", "math/bits.Add64", "slices.overlaps[cornhill/book.rung]"], unfollowed := true, recurses := true, named := ["math/bits.divideError", "math/bits.overflowError"], apart := false, narrowed := true }
def TopCrashUptoSaid : Prop := topCrashUptoRow.holds Tryz.pinned (OpenSpec.upto topCrashSpec)

/-- 'cornhilltop.TopNothing', WHERE WHAT IT READS IS OF BULK AT MOST 1048576: true; the input reads as it did. -/
def topNothingUptoRow : OpenClaim := { program := "ytaafldgiafcgfaagreat", sum := "529a17224e70d2e25342911ee04421058ab9c7d8b9444b4a0845a689bc6624b5", func := "cornhill/cornhilltop.TopNothing", spec := "topNothing", inPlace := ["maps.clone", "math/bits.Add64", "slices.overlaps[cornhill/book.rung]"], unfollowed := true, recurses := true, named := ["math/bits.divideError", "math/bits.overflowError"], apart := false, narrowed := true }
def TopNothingUptoSaid : Prop := topNothingUptoRow.holds Tryz.pinned (OpenSpec.upto topNothingSpec)

/-- 'cornhilltop.TopSnaps', WHERE WHAT IT READS IS OF BULK AT MOST 1048576: true; the input reads as it did. -/
def topSnapsUptoRow : OpenClaim := { program := "ytaafldgiafcgfaagreat", sum := "529a17224e70d2e25342911ee04421058ab9c7d8b9444b4a0845a689bc6624b5", func := "cornhill/cornhilltop.TopSnaps", spec := "topSnaps", inPlace := ["maps.clone", "math/bits.Add64", "slices.overlaps[cornhill/book.rung]"], unfollowed := true, recurses := true, named := ["math/bits.divideError", "math/bits.overflowError"], apart := false, narrowed := true }
def TopSnapsUptoSaid : Prop := topSnapsUptoRow.holds Tryz.pinned (OpenSpec.upto topSnapsSpec)

/-- 'cornhilllaw24.EngineNumbers', WHERE WHAT IT READS IS OF BULK AT MOST 1048576: true; the input reads as it did. -/
def engineNumbersUptoRow : OpenClaim := { program := "ytaafldgiafcgfaagreat", sum := "529a17224e70d2e25342911ee04421058ab9c7d8b9444b4a0845a689bc6624b5", func := "cornhill/cornhilllaw24.EngineNumbers", spec := "engineNumbers", inPlace := ["maps.clone", "math/bits.Add64", "slices.overlaps[cornhill/book.rung]"], unfollowed := true, recurses := true, named := ["math/bits.divideError", "math/bits.overflowError"], apart := false, narrowed := true }
def EngineNumbersUptoSaid : Prop := engineNumbersUptoRow.holds Tryz.pinned (OpenSpec.upto engineNumbersSpec)

/-- 'cornhilltop.TopInOrder', WHERE WHAT IT READS IS OF BULK AT MOST 1048576: true; the input reads as it did. -/
def topInOrderUptoRow : OpenClaim := { program := "ytaafldgiafcgfaagreat", sum := "529a17224e70d2e25342911ee04421058ab9c7d8b9444b4a0845a689bc6624b5", func := "cornhill/cornhilltop.TopInOrder", spec := "topInOrder", inPlace := ["maps.clone", "math/bits.Add64", "slices.overlaps[cornhill/book.rung]"], unfollowed := true, recurses := true, named := ["math/bits.divideError", "math/bits.overflowError"], apart := false, narrowed := true }
def TopInOrderUptoSaid : Prop := topInOrderUptoRow.holds Tryz.pinned (OpenSpec.upto topInOrderSpec)

end Rows
end Go.Proofs.YtaafldgiafcgfaaGreat
