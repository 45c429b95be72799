/-
  No cell of these rows narrows 'for every input' (looked for: loops, veiled, ifaces, maps, wideKeys, modest, calm, conditions, laid).
  DERIVED. THE GIVEN ROWS OF THIS SEAT. 10 by the template 'for every input the law returns true; each argument reads behind the call as it read before'; 0 by the template 'total and deterministic' (their statements: YtogkpgfggfbhaaaGreatTotals.lean).
  GIVEN WITH THE SEED: the statements are not yours to turn. If you find one false, say at which input.
  Laid BY PROGRAM, IN A SANDBOX (cutbox-rows.mjs): the forced cells as the released guide's own fill.sh prints them over the translation d1d6163ef859a7e7… (all of the seat's roots in one cut). By AI agents, Wed Nov 11 2026. No macro, syntax, notation, axiom, sorry.
-/
import Derived.Test.YtogkpgfggfbhaaaGreatChecked
import GoSem.Claim
import GoSem.ClaimJoined
import GoSem.ClaimMapViews
import Derived.JoinedTies
import Derived.KernelRfl
namespace Go.Proofs.YtogkpgfggfbhaaaGreat
/- THE CELL 'sum', in the pinned program and in every row, IS THE sha256 OF THE DUMP (.gsa) THAT YtogkpgfggfbhaaaGreatProg.lean LOADS. Nothing in Lean hashes anything: it is a label: what it is worth is what the hold of that sum in a sandbox is worth. -/
noncomputable def Tryz.pinned : Pinned := { name := "ytogkpgfggfbhaaagreat", sum := "d1d6163ef859a7e722fd228efacc8c99e784308a1f1c774d5fbc95d01c02fa2e", checked := Tryz.checked }
namespace Rows
def none {H : Type} : Left H := { results := [], args := [] }

/-- 'cornhilllaw18.GateLimits': WHATEVER THE INPUT: true; the input reads as it did. -/
def gateLimitsSpec : ChangeSpec := { name := "gateLimits", fn := fun _ => fun
  | [d] => { results := [.lit (.bool true)], args := [d] }
  | _ => none }
def gateLimitsRow : OpenClaim := { program := "ytogkpgfggfbhaaagreat", sum := "d1d6163ef859a7e722fd228efacc8c99e784308a1f1c774d5fbc95d01c02fa2e", func := "cornhill/cornhilllaw18.GateLimits", spec := "gateLimits", inPlace := ["maps.clone", "math/bits.Add64", "slices.overlaps[cornhill/book.rung]"], unfollowed := true, recurses := true, named := ["math/bits.divideError", "math/bits.overflowError"], apart := false }
def GateLimitsSaid : Prop := gateLimitsRow.holds Tryz.pinned (OpenSpec.ofChange gateLimitsSpec)

/-- ITS FALSE NEIGHBOUR: 'it returns false'. Refute it at one input. -/
def gateLimitsWrong : ChangeSpec := { name := "gateLimits", fn := fun _ => fun
  | [d] => { results := [.lit (.bool false)], args := [d] }
  | _ => none }
def GateLimitsWrongFalsely : Prop := gateLimitsRow.holds Tryz.pinned (OpenSpec.ofChange gateLimitsWrong)

/-- 'cornhilllaw18.GateOwners': WHATEVER THE INPUT: true; the input reads as it did. -/
def gateOwnersSpec : ChangeSpec := { name := "gateOwners", fn := fun _ => fun
  | [d1, d2] => { results := [.lit (.bool true)], args := [d1, d2] }
  | _ => none }
def gateOwnersRow : OpenClaim := { program := "ytogkpgfggfbhaaagreat", sum := "d1d6163ef859a7e722fd228efacc8c99e784308a1f1c774d5fbc95d01c02fa2e", func := "cornhill/cornhilllaw18.GateOwners", spec := "gateOwners", inPlace := ["maps.clone", "math/bits.Add64", "slices.overlaps[cornhill/book.rung]"], unfollowed := true, recurses := true, named := ["math/bits.divideError", "math/bits.overflowError"], apart := false }
def GateOwnersSaid : Prop := gateOwnersRow.holds Tryz.pinned (OpenSpec.ofChange gateOwnersSpec)

/-- ITS FALSE NEIGHBOUR: 'it returns false'. Refute it at one input. -/
def gateOwnersWrong : ChangeSpec := { name := "gateOwners", fn := fun _ => fun
  | [d1, d2] => { results := [.lit (.bool false)], args := [d1, d2] }
  | _ => none }
def GateOwnersWrongFalsely : Prop := gateOwnersRow.holds Tryz.pinned (OpenSpec.ofChange gateOwnersWrong)

/-- 'cornhilllaw18.GateCopies': WHATEVER THE INPUT: true; the input reads as it did. -/
def gateCopiesSpec : ChangeSpec := { name := "gateCopies", fn := fun _ => fun
  | [d1, d2, d3] => { results := [.lit (.bool true)], args := [d1, d2, d3] }
  | _ => none }
def gateCopiesRow : OpenClaim := { program := "ytogkpgfggfbhaaagreat", sum := "d1d6163ef859a7e722fd228efacc8c99e784308a1f1c774d5fbc95d01c02fa2e", func := "cornhill/cornhilllaw18.GateCopies", spec := "gateCopies", inPlace := ["maps.clone", "math/bits.Add64", "slices.overlaps[cornhill/book.rung]"], unfollowed := true, recurses := true, named := ["math/bits.divideError", "math/bits.overflowError"], apart := false }
def GateCopiesSaid : Prop := gateCopiesRow.holds Tryz.pinned (OpenSpec.ofChange gateCopiesSpec)

/-- ITS FALSE NEIGHBOUR: 'it returns false'. Refute it at one input. -/
def gateCopiesWrong : ChangeSpec := { name := "gateCopies", fn := fun _ => fun
  | [d1, d2, d3] => { results := [.lit (.bool false)], args := [d1, d2, d3] }
  | _ => none }
def GateCopiesWrongFalsely : Prop := gateCopiesRow.holds Tryz.pinned (OpenSpec.ofChange gateCopiesWrong)

/-- 'cornhilllaw19.FeedLevels': WHATEVER THE INPUT: true; the input reads as it did. -/
def feedLevelsSpec : ChangeSpec := { name := "feedLevels", fn := fun _ => fun
  | [d1, d2, d3] => { results := [.lit (.bool true)], args := [d1, d2, d3] }
  | _ => none }
def feedLevelsRow : OpenClaim := { program := "ytogkpgfggfbhaaagreat", sum := "d1d6163ef859a7e722fd228efacc8c99e784308a1f1c774d5fbc95d01c02fa2e", func := "cornhill/cornhilllaw19.FeedLevels", spec := "feedLevels", inPlace := ["maps.clone", "math/bits.Add64", "slices.overlaps[cornhill/book.rung]", "slices.overlaps[cornhill/book.Level]"], unfollowed := true, recurses := true, named := ["math/bits.divideError", "math/bits.overflowError"], apart := false }
def FeedLevelsSaid : Prop := feedLevelsRow.holds Tryz.pinned (OpenSpec.ofChange feedLevelsSpec)

/-- ITS FALSE NEIGHBOUR: 'it returns false'. Refute it at one input. -/
def feedLevelsWrong : ChangeSpec := { name := "feedLevels", fn := fun _ => fun
  | [d1, d2, d3] => { results := [.lit (.bool false)], args := [d1, d2, d3] }
  | _ => none }
def FeedLevelsWrongFalsely : Prop := feedLevelsRow.holds Tryz.pinned (OpenSpec.ofChange feedLevelsWrong)

/-- 'cornhilllaw19.FeedPaths': WHATEVER THE INPUT: true; the input reads as it did. -/
def feedPathsSpec : ChangeSpec := { name := "feedPaths", fn := fun _ => fun
  | [d1, d2, d3, d4, d5] => { results := [.lit (.bool true)], args := [d1, d2, d3, d4, d5] }
  | _ => none }
def feedPathsRow : OpenClaim := { program := "ytogkpgfggfbhaaagreat", sum := "d1d6163ef859a7e722fd228efacc8c99e784308a1f1c774d5fbc95d01c02fa2e", func := "cornhill/cornhilllaw19.FeedPaths", spec := "feedPaths", inPlace := ["maps.clone", "math/bits.Add64", "slices.overlaps[cornhill/book.rung]", "slices.overlaps[cornhill/book.Level]"], unfollowed := true, recurses := true, named := ["math/bits.divideError", "math/bits.overflowError"], apart := false }
def FeedPathsSaid : Prop := feedPathsRow.holds Tryz.pinned (OpenSpec.ofChange feedPathsSpec)

/-- ITS FALSE NEIGHBOUR: 'it returns false'. Refute it at one input. -/
def feedPathsWrong : ChangeSpec := { name := "feedPaths", fn := fun _ => fun
  | [d1, d2, d3, d4, d5] => { results := [.lit (.bool false)], args := [d1, d2, d3, d4, d5] }
  | _ => none }
def FeedPathsWrongFalsely : Prop := feedPathsRow.holds Tryz.pinned (OpenSpec.ofChange feedPathsWrong)

/-- 'cornhilllaw19.FeedTurns': WHATEVER THE INPUT: true; the input reads as it did. -/
def feedTurnsSpec : ChangeSpec := { name := "feedTurns", fn := fun _ => fun
  | [d1, d2, d3, d4, d5, d6] => { results := [.lit (.bool true)], args := [d1, d2, d3, d4, d5, d6] }
  | _ => none }
def feedTurnsRow : OpenClaim := { program := "ytogkpgfggfbhaaagreat", sum := "d1d6163ef859a7e722fd228efacc8c99e784308a1f1c774d5fbc95d01c02fa2e", func := "cornhill/cornhilllaw19.FeedTurns", spec := "feedTurns", inPlace := ["maps.clone", "math/bits.Add64", "slices.overlaps[cornhill/book.rung]", "slices.overlaps[cornhill/book.Level]"], unfollowed := true, recurses := true, named := ["math/bits.divideError", "math/bits.overflowError"], apart := false }
def FeedTurnsSaid : Prop := feedTurnsRow.holds Tryz.pinned (OpenSpec.ofChange feedTurnsSpec)

/-- ITS FALSE NEIGHBOUR: 'it returns false'. Refute it at one input. -/
def feedTurnsWrong : ChangeSpec := { name := "feedTurns", fn := fun _ => fun
  | [d1, d2, d3, d4, d5, d6] => { results := [.lit (.bool false)], args := [d1, d2, d3, d4, d5, d6] }
  | _ => none }
def FeedTurnsWrongFalsely : Prop := feedTurnsRow.holds Tryz.pinned (OpenSpec.ofChange feedTurnsWrong)

/-- 'cornhilllaw19.FeedCodes': WHATEVER THE INPUT: true; the input reads as it did. -/
def feedCodesSpec : ChangeSpec := { name := "feedCodes", fn := fun _ => fun
  | [d1, d2, d3] => { results := [.lit (.bool true)], args := [d1, d2, d3] }
  | _ => none }
def feedCodesRow : OpenClaim := { program := "ytogkpgfggfbhaaagreat", sum := "d1d6163ef859a7e722fd228efacc8c99e784308a1f1c774d5fbc95d01c02fa2e", func := "cornhill/cornhilllaw19.FeedCodes", spec := "feedCodes", inPlace := ["maps.clone", "math/bits.Add64", "slices.overlaps[cornhill/book.rung]"], unfollowed := true, recurses := true, named := ["math/bits.divideError", "math/bits.overflowError"], apart := false }
def FeedCodesSaid : Prop := feedCodesRow.holds Tryz.pinned (OpenSpec.ofChange feedCodesSpec)

/-- ITS FALSE NEIGHBOUR: 'it returns false'. Refute it at one input. -/
def feedCodesWrong : ChangeSpec := { name := "feedCodes", fn := fun _ => fun
  | [d1, d2, d3] => { results := [.lit (.bool false)], args := [d1, d2, d3] }
  | _ => none }
def FeedCodesWrongFalsely : Prop := feedCodesRow.holds Tryz.pinned (OpenSpec.ofChange feedCodesWrong)

/-- 'cornhilllaw20.SnapBack': WHATEVER THE INPUT: true; the input reads as it did. -/
def snapBackSpec : ChangeSpec := { name := "snapBack", fn := fun _ => fun
  | [d1, d2, d3, d4, d5] => { results := [.lit (.bool true)], args := [d1, d2, d3, d4, d5] }
  | _ => none }
def snapBackRow : OpenClaim := { program := "ytogkpgfggfbhaaagreat", sum := "d1d6163ef859a7e722fd228efacc8c99e784308a1f1c774d5fbc95d01c02fa2e", func := "cornhill/cornhilllaw20.SnapBack", spec := "snapBack", inPlace := ["maps.clone", "math/bits.Add64", "slices.overlaps[cornhill/book.rung]"], unfollowed := true, recurses := true, named := ["math/bits.divideError", "math/bits.overflowError"], apart := false }
def SnapBackSaid : Prop := snapBackRow.holds Tryz.pinned (OpenSpec.ofChange snapBackSpec)

/-- ITS FALSE NEIGHBOUR: 'it returns false'. Refute it at one input. -/
def snapBackWrong : ChangeSpec := { name := "snapBack", fn := fun _ => fun
  | [d1, d2, d3, d4, d5] => { results := [.lit (.bool false)], args := [d1, d2, d3, d4, d5] }
  | _ => none }
def SnapBackWrongFalsely : Prop := snapBackRow.holds Tryz.pinned (OpenSpec.ofChange snapBackWrong)

/-- 'cornhilllaw20.SnapCuts': WHATEVER THE INPUT: true; the input reads as it did. -/
def snapCutsSpec : ChangeSpec := { name := "snapCuts", fn := fun _ => fun
  | [d1, d2, d3, d4, d5] => { results := [.lit (.bool true)], args := [d1, d2, d3, d4, d5] }
  | _ => none }
def snapCutsRow : OpenClaim := { program := "ytogkpgfggfbhaaagreat", sum := "d1d6163ef859a7e722fd228efacc8c99e784308a1f1c774d5fbc95d01c02fa2e", func := "cornhill/cornhilllaw20.SnapCuts", spec := "snapCuts", inPlace := ["maps.clone", "math/bits.Add64", "slices.overlaps[cornhill/book.rung]"], unfollowed := true, recurses := true, named := ["math/bits.divideError", "math/bits.overflowError"], apart := false }
def SnapCutsSaid : Prop := snapCutsRow.holds Tryz.pinned (OpenSpec.ofChange snapCutsSpec)

/-- ITS FALSE NEIGHBOUR: 'it returns false'. Refute it at one input. -/
def snapCutsWrong : ChangeSpec := { name := "snapCuts", fn := fun _ => fun
  | [d1, d2, d3, d4, d5] => { results := [.lit (.bool false)], args := [d1, d2, d3, d4, d5] }
  | _ => none }
def SnapCutsWrongFalsely : Prop := snapCutsRow.holds Tryz.pinned (OpenSpec.ofChange snapCutsWrong)

/-- 'cornhilllaw26.StandbyLines': WHATEVER THE INPUT: true; the input reads as it did. -/
def standbyLinesSpec : ChangeSpec := { name := "standbyLines", fn := fun _ => fun
  | [d1, d2, d3, d4] => { results := [.lit (.bool true)], args := [d1, d2, d3, d4] }
  | _ => none }
def standbyLinesRow : OpenClaim := { program := "ytogkpgfggfbhaaagreat", sum := "d1d6163ef859a7e722fd228efacc8c99e784308a1f1c774d5fbc95d01c02fa2e", func := "cornhill/cornhilllaw26.StandbyLines", spec := "standbyLines", inPlace := ["maps.clone", "math/bits.Add64", "slices.overlaps[cornhill/book.rung]", "slices.overlaps[cornhill/standby.line]"], unfollowed := true, recurses := true, named := ["math/bits.divideError", "math/bits.overflowError"], apart := false }
def StandbyLinesSaid : Prop := standbyLinesRow.holds Tryz.pinned (OpenSpec.ofChange standbyLinesSpec)

/-- ITS FALSE NEIGHBOUR: 'it returns false'. Refute it at one input. -/
def standbyLinesWrong : ChangeSpec := { name := "standbyLines", fn := fun _ => fun
  | [d1, d2, d3, d4] => { results := [.lit (.bool false)], args := [d1, d2, d3, d4] }
  | _ => none }
def StandbyLinesWrongFalsely : Prop := standbyLinesRow.holds Tryz.pinned (OpenSpec.ofChange standbyLinesWrong)

/- THE SECOND FORM. 'bulk': how many values and letters a reading holds, each counted each time it is reached (what is shared counts as often as it is met; a slice's spare places count too). A statement '..UptoSaid' is the law's where the arguments, and the package variables that the reading takes, are together of bulk at most 1048576: NARROWER than '..Said'. Prove '..Said' where nothing that the law and all that it calls make is longer than what came in: it says more and counts as full. Else prove '..UptoSaid'. A law counts once. -/
mutual
def uptoBulk {H : Type} : DataW H → Nat
  | .lit (.string bytes) => bytes.length + 1
  | .lit _ => 1
  | .nil => 1
  | .ptr d => uptoBulk d + 1
  | .slice elems spare => uptoBulkAll elems + uptoBulkAll spare + 1
  | .agg parts => uptoBulkAll parts + 1
  | .iface _ d => uptoBulk d + 1
  | .map entries => uptoBulkEntries entries + 1
  | .held _ => 1
def uptoBulkAll {H : Type} : List (DataW H) → Nat
  | [] => 0
  | d :: r => uptoBulk d + uptoBulkAll r
def uptoBulkEntries {H : Type} : List (Lit × DataW H) → Nat
  | [] => 0
  | x :: r => uptoBulkEntry x + uptoBulkEntries r
def uptoBulkEntry {H : Type} : Lit × DataW H → Nat
  | (.string bytes, d) => bytes.length + uptoBulk d + 1
  | (_, d) => uptoBulk d + 1
 end
def uptoSmall : (H : Type) → List (DataW H) → Bool := fun _ ds => decide (uptoBulkAll ds ≤ 1048576)
def OpenSpec.upto (s : _root_.Go.ChangeSpec) : _root_.Go.OpenSpec := { _root_.Go.OpenSpec.ofChange s with cond := some uptoSmall }

/-- 'cornhilllaw18.GateLimits', WHERE WHAT IT READS IS OF BULK AT MOST 1048576: true; the input reads as it did. -/
def gateLimitsUptoRow : OpenClaim := { program := "ytogkpgfggfbhaaagreat", sum := "d1d6163ef859a7e722fd228efacc8c99e784308a1f1c774d5fbc95d01c02fa2e", func := "cornhill/cornhilllaw18.GateLimits", spec := "gateLimits", inPlace := ["maps.clone", "math/bits.Add64", "slices.overlaps[cornhill/book.rung]"], unfollowed := true, recurses := true, named := ["math/bits.divideError", "math/bits.overflowError"], apart := false, narrowed := true }
def GateLimitsUptoSaid : Prop := gateLimitsUptoRow.holds Tryz.pinned (OpenSpec.upto gateLimitsSpec)

/-- 'cornhilllaw18.GateOwners', WHERE WHAT IT READS IS OF BULK AT MOST 1048576: true; the input reads as it did. -/
def gateOwnersUptoRow : OpenClaim := { program := "ytogkpgfggfbhaaagreat", sum := "d1d6163ef859a7e722fd228efacc8c99e784308a1f1c774d5fbc95d01c02fa2e", func := "cornhill/cornhilllaw18.GateOwners", spec := "gateOwners", inPlace := ["maps.clone", "math/bits.Add64", "slices.overlaps[cornhill/book.rung]"], unfollowed := true, recurses := true, named := ["math/bits.divideError", "math/bits.overflowError"], apart := false, narrowed := true }
def GateOwnersUptoSaid : Prop := gateOwnersUptoRow.holds Tryz.pinned (OpenSpec.upto gateOwnersSpec)

/-- 'cornhilllaw18.GateCopies', WHERE WHAT IT READS IS OF BULK AT MOST 1048576: true; the input reads as it did. -/
def gateCopiesUptoRow : OpenClaim := { program := "ytogkpgfggfbhaaagreat", sum := "d1d6163ef859a7e722fd228efacc8c99e784308a1f1c774d5fbc95d01c02fa2e", func := "cornhill/cornhilllaw18.GateCopies", spec := "gateCopies", inPlace := ["maps.clone", "math/bits.Add64", "slices.overlaps[cornhill/book.rung]"], unfollowed := true, recurses := true, named := ["math/bits.divideError", "math/bits.overflowError"], apart := false, narrowed := true }
def GateCopiesUptoSaid : Prop := gateCopiesUptoRow.holds Tryz.pinned (OpenSpec.upto gateCopiesSpec)

/-- 'cornhilllaw19.FeedLevels', WHERE WHAT IT READS IS OF BULK AT MOST 1048576: true; the input reads as it did. -/
def feedLevelsUptoRow : OpenClaim := { program := "ytogkpgfggfbhaaagreat", sum := "d1d6163ef859a7e722fd228efacc8c99e784308a1f1c774d5fbc95d01c02fa2e", func := "cornhill/cornhilllaw19.FeedLevels", spec := "feedLevels", inPlace := ["maps.clone", "math/bits.Add64", "slices.overlaps[cornhill/book.rung]", "slices.overlaps[cornhill/book.Level]"], unfollowed := true, recurses := true, named := ["math/bits.divideError", "math/bits.overflowError"], apart := false, narrowed := true }
def FeedLevelsUptoSaid : Prop := feedLevelsUptoRow.holds Tryz.pinned (OpenSpec.upto feedLevelsSpec)

/-- 'cornhilllaw19.FeedPaths', WHERE WHAT IT READS IS OF BULK AT MOST 1048576: true; the input reads as it did. -/
def feedPathsUptoRow : OpenClaim := { program := "ytogkpgfggfbhaaagreat", sum := "d1d6163ef859a7e722fd228efacc8c99e784308a1f1c774d5fbc95d01c02fa2e", func := "cornhill/cornhilllaw19.FeedPaths", spec := "feedPaths", inPlace := ["maps.clone", "math/bits.Add64", "slices.overlaps[cornhill/book.rung]", "slices.overlaps[cornhill/book.Level]"], unfollowed := true, recurses := true, named := ["math/bits.divideError", "math/bits.overflowError"], apart := false, narrowed := true }
def FeedPathsUptoSaid : Prop := feedPathsUptoRow.holds Tryz.pinned (OpenSpec.upto feedPathsSpec)

/-- 'cornhilllaw19.FeedTurns', WHERE WHAT IT READS IS OF BULK AT MOST 1048576: true; the input reads as it did. -/
def feedTurnsUptoRow : OpenClaim := { program := "ytogkpgfggfbhaaagreat", sum := "d1d6163ef859a7e722fd228efacc8c99e784308a1f1c774d5fbc95d01c02fa2e", func := "cornhill/cornhilllaw19.FeedTurns", spec := "feedTurns", inPlace := ["maps.clone", "math/bits.Add64", "slices.overlaps[cornhill/book.rung]", "slices.overlaps[cornhill/book.Level]"], unfollowed := true, recurses := true, named := ["math/bits.divideError", "math/bits.overflowError"], apart := false, narrowed := true }
def FeedTurnsUptoSaid : Prop := feedTurnsUptoRow.holds Tryz.pinned (OpenSpec.upto feedTurnsSpec)

/-- 'cornhilllaw19.FeedCodes', WHERE WHAT IT READS IS OF BULK AT MOST 1048576: true; the input reads as it did. -/
def feedCodesUptoRow : OpenClaim := { program := "ytogkpgfggfbhaaagreat", sum := "d1d6163ef859a7e722fd228efacc8c99e784308a1f1c774d5fbc95d01c02fa2e", func := "cornhill/cornhilllaw19.FeedCodes", spec := "feedCodes", inPlace := ["maps.clone", "math/bits.Add64", "slices.overlaps[cornhill/book.rung]"], unfollowed := true, recurses := true, named := ["math/bits.divideError", "math/bits.overflowError"], apart := false, narrowed := true }
def FeedCodesUptoSaid : Prop := feedCodesUptoRow.holds Tryz.pinned (OpenSpec.upto feedCodesSpec)

/-- 'cornhilllaw20.SnapBack', WHERE WHAT IT READS IS OF BULK AT MOST 1048576: true; the input reads as it did. -/
def snapBackUptoRow : OpenClaim := { program := "ytogkpgfggfbhaaagreat", sum := "d1d6163ef859a7e722fd228efacc8c99e784308a1f1c774d5fbc95d01c02fa2e", func := "cornhill/cornhilllaw20.SnapBack", spec := "snapBack", inPlace := ["maps.clone", "math/bits.Add64", "slices.overlaps[cornhill/book.rung]"], unfollowed := true, recurses := true, named := ["math/bits.divideError", "math/bits.overflowError"], apart := false, narrowed := true }
def SnapBackUptoSaid : Prop := snapBackUptoRow.holds Tryz.pinned (OpenSpec.upto snapBackSpec)

/-- 'cornhilllaw20.SnapCuts', WHERE WHAT IT READS IS OF BULK AT MOST 1048576: true; the input reads as it did. -/
def snapCutsUptoRow : OpenClaim := { program := "ytogkpgfggfbhaaagreat", sum := "d1d6163ef859a7e722fd228efacc8c99e784308a1f1c774d5fbc95d01c02fa2e", func := "cornhill/cornhilllaw20.SnapCuts", spec := "snapCuts", inPlace := ["maps.clone", "math/bits.Add64", "slices.overlaps[cornhill/book.rung]"], unfollowed := true, recurses := true, named := ["math/bits.divideError", "math/bits.overflowError"], apart := false, narrowed := true }
def SnapCutsUptoSaid : Prop := snapCutsUptoRow.holds Tryz.pinned (OpenSpec.upto snapCutsSpec)

/-- 'cornhilllaw26.StandbyLines', WHERE WHAT IT READS IS OF BULK AT MOST 1048576: true; the input reads as it did. -/
def standbyLinesUptoRow : OpenClaim := { program := "ytogkpgfggfbhaaagreat", sum := "d1d6163ef859a7e722fd228efacc8c99e784308a1f1c774d5fbc95d01c02fa2e", func := "cornhill/cornhilllaw26.StandbyLines", spec := "standbyLines", inPlace := ["maps.clone", "math/bits.Add64", "slices.overlaps[cornhill/book.rung]", "slices.overlaps[cornhill/standby.line]"], unfollowed := true, recurses := true, named := ["math/bits.divideError", "math/bits.overflowError"], apart := false, narrowed := true }
def StandbyLinesUptoSaid : Prop := standbyLinesUptoRow.holds Tryz.pinned (OpenSpec.upto standbyLinesSpec)

end Rows
end Go.Proofs.YtogkpgfggfbhaaaGreat
