/-
  No cell of these rows narrows 'for every input' (looked for: loops, veiled, ifaces, maps, wideKeys, modest, calm, conditions, laid).
  DERIVED. THE GIVEN ROWS OF THIS SEAT. 9 by the template 'for every input the law returns true; each argument reads behind the call as it read before'; 0 by the template 'total and deterministic' (their statements: YthkofaanekmpmaaGreatTotals.lean).
  GIVEN WITH THE SEED: the statements are not yours to turn. If you find one false, say at which input.
  Laid BY PROGRAM, IN A SANDBOX (cutbox-rows.mjs): the forced cells as the released guide's own fill.sh prints them over the translation ca9692ecbc24bac4… (all of the seat's roots in one cut). By AI agents, Wed Nov 11 2026. No macro, syntax, notation, axiom, sorry.
-/
import Derived.Test.YthkofaanekmpmaaGreatChecked
import GoSem.Claim
import GoSem.ClaimJoined
import GoSem.ClaimMapViews
import Derived.JoinedTies
import Derived.KernelRfl
namespace Go.Proofs.YthkofaanekmpmaaGreat
/- THE CELL 'sum', in the pinned program and in every row, IS THE sha256 OF THE DUMP (.gsa) THAT YthkofaanekmpmaaGreatProg.lean LOADS. Nothing in Lean hashes anything: it is a label: what it is worth is what the hold of that sum in a sandbox is worth. -/
noncomputable def Tryz.pinned : Pinned := { name := "ythkofaanekmpmaagreat", sum := "ca9692ecbc24bac4e6c26d845c8af73006e1e1c8c9a958233a6ea96f72230208", checked := Tryz.checked }
namespace Rows
def none {H : Type} : Left H := { results := [], args := [] }

/-- 'cornhilllaw19.FeedLevels': WHATEVER THE INPUT: true; the input reads as it did. -/
def feedLevelsSpec : ChangeSpec := { name := "feedLevels", fn := fun _ => fun
  | [d1, d2, d3] => { results := [.lit (.bool true)], args := [d1, d2, d3] }
  | _ => none }
def feedLevelsRow : OpenClaim := { program := "ythkofaanekmpmaagreat", sum := "ca9692ecbc24bac4e6c26d845c8af73006e1e1c8c9a958233a6ea96f72230208", func := "cornhill/cornhilllaw19.FeedLevels", spec := "feedLevels", inPlace := ["maps.clone", "math/bits.Add64", "slices.overlaps[cornhill/book.rung]", "slices.overlaps[cornhill/book.Level]"], unfollowed := true, recurses := true, named := ["math/bits.divideError", "math/bits.overflowError"], apart := false }
def FeedLevelsSaid : Prop := feedLevelsRow.holds Tryz.pinned (OpenSpec.ofChange feedLevelsSpec)

/-- ITS FALSE NEIGHBOUR: 'it returns false'. Refute it at one input. -/
def feedLevelsWrong : ChangeSpec := { name := "feedLevels", fn := fun _ => fun
  | [d1, d2, d3] => { results := [.lit (.bool false)], args := [d1, d2, d3] }
  | _ => none }
def FeedLevelsWrongFalsely : Prop := feedLevelsRow.holds Tryz.pinned (OpenSpec.ofChange feedLevelsWrong)

/-- 'cornhilllaw19.FeedPaths': WHATEVER THE INPUT: true; the input reads as it did. -/
def feedPathsSpec : ChangeSpec := { name := "feedPaths", fn := fun _ => fun
  | [d1, d2, d3, d4, d5] => { results := [.lit (.bool true)], args := [d1, d2, d3, d4, d5] }
  | _ => none }
def feedPathsRow : OpenClaim := { program := "ythkofaanekmpmaagreat", sum := "ca9692ecbc24bac4e6c26d845c8af73006e1e1c8c9a958233a6ea96f72230208", func := "cornhill/cornhilllaw19.FeedPaths", spec := "feedPaths", inPlace := ["maps.clone", "math/bits.Add64", "slices.overlaps[cornhill/book.rung]", "slices.overlaps[cornhill/book.Level]"], unfollowed := true, recurses := true, named := ["math/bits.divideError", "math/bits.overflowError"], apart := false }
def FeedPathsSaid : Prop := feedPathsRow.holds Tryz.pinned (OpenSpec.ofChange feedPathsSpec)

/-- ITS FALSE NEIGHBOUR: 'it returns false'. Refute it at one input. -/
def feedPathsWrong : ChangeSpec := { name := "feedPaths", fn := fun _ => fun
  | [d1, d2, d3, d4, d5] => { results := [.lit (.bool false)], args := [d1, d2, d3, d4, d5] }
  | _ => none }
def FeedPathsWrongFalsely : Prop := feedPathsRow.holds Tryz.pinned (OpenSpec.ofChange feedPathsWrong)

/-- 'cornhilllaw20.SnapBack': WHATEVER THE INPUT: true; the input reads as it did. -/
def snapBackSpec : ChangeSpec := { name := "snapBack", fn := fun _ => fun
  | [d1, d2, d3, d4, d5] => { results := [.lit (.bool true)], args := [d1, d2, d3, d4, d5] }
  | _ => none }
def snapBackRow : OpenClaim := { program := "ythkofaanekmpmaagreat", sum := "ca9692ecbc24bac4e6c26d845c8af73006e1e1c8c9a958233a6ea96f72230208", func := "cornhill/cornhilllaw20.SnapBack", spec := "snapBack", inPlace := ["maps.clone", "math/bits.Add64", "slices.overlaps[cornhill/book.rung]"], unfollowed := true, recurses := true, named := ["math/bits.divideError", "math/bits.overflowError"], apart := false }
def SnapBackSaid : Prop := snapBackRow.holds Tryz.pinned (OpenSpec.ofChange snapBackSpec)

/-- ITS FALSE NEIGHBOUR: 'it returns false'. Refute it at one input. -/
def snapBackWrong : ChangeSpec := { name := "snapBack", fn := fun _ => fun
  | [d1, d2, d3, d4, d5] => { results := [.lit (.bool false)], args := [d1, d2, d3, d4, d5] }
  | _ => none }
def SnapBackWrongFalsely : Prop := snapBackRow.holds Tryz.pinned (OpenSpec.ofChange snapBackWrong)

/-- 'cornhilllaw19.FeedTurns': WHATEVER THE INPUT: true; the input reads as it did. -/
def feedTurnsSpec : ChangeSpec := { name := "feedTurns", fn := fun _ => fun
  | [d1, d2, d3, d4, d5, d6] => { results := [.lit (.bool true)], args := [d1, d2, d3, d4, d5, d6] }
  | _ => none }
def feedTurnsRow : OpenClaim := { program := "ythkofaanekmpmaagreat", sum := "ca9692ecbc24bac4e6c26d845c8af73006e1e1c8c9a958233a6ea96f72230208", func := "cornhill/cornhilllaw19.FeedTurns", spec := "feedTurns", inPlace := ["maps.clone", "math/bits.Add64", "slices.overlaps[cornhill/book.rung]", "slices.overlaps[cornhill/book.Level]"], unfollowed := true, recurses := true, named := ["math/bits.divideError", "math/bits.overflowError"], apart := false }
def FeedTurnsSaid : Prop := feedTurnsRow.holds Tryz.pinned (OpenSpec.ofChange feedTurnsSpec)

/-- ITS FALSE NEIGHBOUR: 'it returns false'. Refute it at one input. -/
def feedTurnsWrong : ChangeSpec := { name := "feedTurns", fn := fun _ => fun
  | [d1, d2, d3, d4, d5, d6] => { results := [.lit (.bool false)], args := [d1, d2, d3, d4, d5, d6] }
  | _ => none }
def FeedTurnsWrongFalsely : Prop := feedTurnsRow.holds Tryz.pinned (OpenSpec.ofChange feedTurnsWrong)

/-- 'cornhilllaw26.StandbyLines': WHATEVER THE INPUT: true; the input reads as it did. -/
def standbyLinesSpec : ChangeSpec := { name := "standbyLines", fn := fun _ => fun
  | [d1, d2, d3, d4] => { results := [.lit (.bool true)], args := [d1, d2, d3, d4] }
  | _ => none }
def standbyLinesRow : OpenClaim := { program := "ythkofaanekmpmaagreat", sum := "ca9692ecbc24bac4e6c26d845c8af73006e1e1c8c9a958233a6ea96f72230208", func := "cornhill/cornhilllaw26.StandbyLines", spec := "standbyLines", inPlace := ["maps.clone", "math/bits.Add64", "slices.overlaps[cornhill/book.rung]", "slices.overlaps[cornhill/standby.line]"], unfollowed := true, recurses := true, named := ["math/bits.divideError", "math/bits.overflowError"], apart := false }
def StandbyLinesSaid : Prop := standbyLinesRow.holds Tryz.pinned (OpenSpec.ofChange standbyLinesSpec)

/-- ITS FALSE NEIGHBOUR: 'it returns false'. Refute it at one input. -/
def standbyLinesWrong : ChangeSpec := { name := "standbyLines", fn := fun _ => fun
  | [d1, d2, d3, d4] => { results := [.lit (.bool false)], args := [d1, d2, d3, d4] }
  | _ => none }
def StandbyLinesWrongFalsely : Prop := standbyLinesRow.holds Tryz.pinned (OpenSpec.ofChange standbyLinesWrong)

/-- 'cornhilllaw24.EngineSeqs': WHATEVER THE INPUT: true; the input reads as it did. -/
def engineSeqsSpec : ChangeSpec := { name := "engineSeqs", fn := fun _ => fun
  | [d1, d2] => { results := [.lit (.bool true)], args := [d1, d2] }
  | _ => none }
def engineSeqsRow : OpenClaim := { program := "ythkofaanekmpmaagreat", sum := "ca9692ecbc24bac4e6c26d845c8af73006e1e1c8c9a958233a6ea96f72230208", func := "cornhill/cornhilllaw24.EngineSeqs", spec := "engineSeqs", inPlace := ["maps.clone", "math/bits.Add64", "slices.overlaps[cornhill/book.rung]"], unfollowed := true, recurses := true, named := ["math/bits.divideError", "math/bits.overflowError"], apart := false }
def EngineSeqsSaid : Prop := engineSeqsRow.holds Tryz.pinned (OpenSpec.ofChange engineSeqsSpec)

/-- ITS FALSE NEIGHBOUR: 'it returns false'. Refute it at one input. -/
def engineSeqsWrong : ChangeSpec := { name := "engineSeqs", fn := fun _ => fun
  | [d1, d2] => { results := [.lit (.bool false)], args := [d1, d2] }
  | _ => none }
def EngineSeqsWrongFalsely : Prop := engineSeqsRow.holds Tryz.pinned (OpenSpec.ofChange engineSeqsWrong)

/-- 'cornhilllaw24.EngineAgain': WHATEVER THE INPUT: true; the input reads as it did. -/
def engineAgainSpec : ChangeSpec := { name := "engineAgain", fn := fun _ => fun
  | [d1, d2] => { results := [.lit (.bool true)], args := [d1, d2] }
  | _ => none }
def engineAgainRow : OpenClaim := { program := "ythkofaanekmpmaagreat", sum := "ca9692ecbc24bac4e6c26d845c8af73006e1e1c8c9a958233a6ea96f72230208", func := "cornhill/cornhilllaw24.EngineAgain", spec := "engineAgain", inPlace := ["maps.clone", "math/bits.Add64", "slices.overlaps[cornhill/book.rung]"], unfollowed := true, recurses := true, named := ["math/bits.divideError", "math/bits.overflowError"], apart := false }
def EngineAgainSaid : Prop := engineAgainRow.holds Tryz.pinned (OpenSpec.ofChange engineAgainSpec)

/-- ITS FALSE NEIGHBOUR: 'it returns false'. Refute it at one input. -/
def engineAgainWrong : ChangeSpec := { name := "engineAgain", fn := fun _ => fun
  | [d1, d2] => { results := [.lit (.bool false)], args := [d1, d2] }
  | _ => none }
def EngineAgainWrongFalsely : Prop := engineAgainRow.holds Tryz.pinned (OpenSpec.ofChange engineAgainWrong)

/-- 'cornhilllaw24.EngineRecords': WHATEVER THE INPUT: true; the input reads as it did. -/
def engineRecordsSpec : ChangeSpec := { name := "engineRecords", fn := fun _ => fun
  | [d1, d2] => { results := [.lit (.bool true)], args := [d1, d2] }
  | _ => none }
def engineRecordsRow : OpenClaim := { program := "ythkofaanekmpmaagreat", sum := "ca9692ecbc24bac4e6c26d845c8af73006e1e1c8c9a958233a6ea96f72230208", func := "cornhill/cornhilllaw24.EngineRecords", spec := "engineRecords", inPlace := ["maps.clone", "math/bits.Add64", "slices.overlaps[cornhill/book.rung]"], unfollowed := true, recurses := true, named := ["math/bits.divideError", "math/bits.overflowError"], apart := false }
def EngineRecordsSaid : Prop := engineRecordsRow.holds Tryz.pinned (OpenSpec.ofChange engineRecordsSpec)

/-- ITS FALSE NEIGHBOUR: 'it returns false'. Refute it at one input. -/
def engineRecordsWrong : ChangeSpec := { name := "engineRecords", fn := fun _ => fun
  | [d1, d2] => { results := [.lit (.bool false)], args := [d1, d2] }
  | _ => none }
def EngineRecordsWrongFalsely : Prop := engineRecordsRow.holds Tryz.pinned (OpenSpec.ofChange engineRecordsWrong)

/-- 'cornhilllaw24.EngineTwins': WHATEVER THE INPUT: true; the input reads as it did. -/
def engineTwinsSpec : ChangeSpec := { name := "engineTwins", fn := fun _ => fun
  | [d1, d2] => { results := [.lit (.bool true)], args := [d1, d2] }
  | _ => none }
def engineTwinsRow : OpenClaim := { program := "ythkofaanekmpmaagreat", sum := "ca9692ecbc24bac4e6c26d845c8af73006e1e1c8c9a958233a6ea96f72230208", func := "cornhill/cornhilllaw24.EngineTwins", spec := "engineTwins", inPlace := ["maps.clone", "math/bits.Add64", "slices.overlaps[cornhill/book.rung]"], unfollowed := true, recurses := true, named := ["math/bits.divideError", "math/bits.overflowError"], apart := false }
def EngineTwinsSaid : Prop := engineTwinsRow.holds Tryz.pinned (OpenSpec.ofChange engineTwinsSpec)

/-- ITS FALSE NEIGHBOUR: 'it returns false'. Refute it at one input. -/
def engineTwinsWrong : ChangeSpec := { name := "engineTwins", fn := fun _ => fun
  | [d1, d2] => { results := [.lit (.bool false)], args := [d1, d2] }
  | _ => none }
def EngineTwinsWrongFalsely : Prop := engineTwinsRow.holds Tryz.pinned (OpenSpec.ofChange engineTwinsWrong)

/- THE SECOND FORM. 'bulk': how many values and letters a reading holds, each counted each time it is reached (what is shared counts as often as it is met; a slice's spare places count too). A statement '..UptoSaid' is the law's where the arguments, and the package variables that the reading takes, are together of bulk at most 1048576: NARROWER than '..Said'. Prove '..Said' where nothing that the law and all that it calls make is longer than what came in: it says more and counts as full. Else prove '..UptoSaid'. A law counts once. -/
mutual
def uptoBulk {H : Type} : DataW H → Nat
  | .lit (.string bytes) => bytes.length + 1
  | .lit _ => 1
  | .nil => 1
  | .ptr d => uptoBulk d + 1
  | .slice elems spare => uptoBulkAll elems + uptoBulkAll spare + 1
  | .agg parts => uptoBulkAll parts + 1
  | .iface _ d => uptoBulk d + 1
  | .map entries => uptoBulkEntries entries + 1
  | .held _ => 1
def uptoBulkAll {H : Type} : List (DataW H) → Nat
  | [] => 0
  | d :: r => uptoBulk d + uptoBulkAll r
def uptoBulkEntries {H : Type} : List (Lit × DataW H) → Nat
  | [] => 0
  | x :: r => uptoBulkEntry x + uptoBulkEntries r
def uptoBulkEntry {H : Type} : Lit × DataW H → Nat
  | (.string bytes, d) => bytes.length + uptoBulk d + 1
  | (_, d) => uptoBulk d + 1
 end
def uptoSmall : (H : Type) → List (DataW H) → Bool := fun _ ds => decide (uptoBulkAll ds ≤ 1048576)
def OpenSpec.upto (s : _root_.Go.ChangeSpec) : _root_.Go.OpenSpec := { _root_.Go.OpenSpec.ofChange s with cond := some uptoSmall }

/-- 'cornhilllaw19.FeedLevels', WHERE WHAT IT READS IS OF BULK AT MOST 1048576: true; the input reads as it did. -/
def feedLevelsUptoRow : OpenClaim := { program := "ythkofaanekmpmaagreat", sum := "ca9692ecbc24bac4e6c26d845c8af73006e1e1c8c9a958233a6ea96f72230208", func := "cornhill/cornhilllaw19.FeedLevels", spec := "feedLevels", inPlace := ["maps.clone", "math/bits.Add64", "slices.overlaps[cornhill/book.rung]", "slices.overlaps[cornhill/book.Level]"], unfollowed := true, recurses := true, named := ["math/bits.divideError", "math/bits.overflowError"], apart := false, narrowed := true }
def FeedLevelsUptoSaid : Prop := feedLevelsUptoRow.holds Tryz.pinned (OpenSpec.upto feedLevelsSpec)

/-- 'cornhilllaw19.FeedPaths', WHERE WHAT IT READS IS OF BULK AT MOST 1048576: true; the input reads as it did. -/
def feedPathsUptoRow : OpenClaim := { program := "ythkofaanekmpmaagreat", sum := "ca9692ecbc24bac4e6c26d845c8af73006e1e1c8c9a958233a6ea96f72230208", func := "cornhill/cornhilllaw19.FeedPaths", spec := "feedPaths", inPlace := ["maps.clone", "math/bits.Add64", "slices.overlaps[cornhill/book.rung]", "slices.overlaps[cornhill/book.Level]"], unfollowed := true, recurses := true, named := ["math/bits.divideError", "math/bits.overflowError"], apart := false, narrowed := true }
def FeedPathsUptoSaid : Prop := feedPathsUptoRow.holds Tryz.pinned (OpenSpec.upto feedPathsSpec)

/-- 'cornhilllaw20.SnapBack', WHERE WHAT IT READS IS OF BULK AT MOST 1048576: true; the input reads as it did. -/
def snapBackUptoRow : OpenClaim := { program := "ythkofaanekmpmaagreat", sum := "ca9692ecbc24bac4e6c26d845c8af73006e1e1c8c9a958233a6ea96f72230208", func := "cornhill/cornhilllaw20.SnapBack", spec := "snapBack", inPlace := ["maps.clone", "math/bits.Add64", "slices.overlaps[cornhill/book.rung]"], unfollowed := true, recurses := true, named := ["math/bits.divideError", "math/bits.overflowError"], apart := false, narrowed := true }
def SnapBackUptoSaid : Prop := snapBackUptoRow.holds Tryz.pinned (OpenSpec.upto snapBackSpec)

/-- 'cornhilllaw19.FeedTurns', WHERE WHAT IT READS IS OF BULK AT MOST 1048576: true; the input reads as it did. -/
def feedTurnsUptoRow : OpenClaim := { program := "ythkofaanekmpmaagreat", sum := "ca9692ecbc24bac4e6c26d845c8af73006e1e1c8c9a958233a6ea96f72230208", func := "cornhill/cornhilllaw19.FeedTurns", spec := "feedTurns", inPlace := ["maps.clone", "math/bits.Add64", "slices.overlaps[cornhill/book.rung]", "slices.overlaps[cornhill/book.Level]"], unfollowed := true, recurses := true, named := ["math/bits.divideError", "math/bits.overflowError"], apart := false, narrowed := true }
def FeedTurnsUptoSaid : Prop := feedTurnsUptoRow.holds Tryz.pinned (OpenSpec.upto feedTurnsSpec)

/-- 'cornhilllaw26.StandbyLines', WHERE WHAT IT READS IS OF BULK AT MOST 1048576: true; the input reads as it did. -/
def standbyLinesUptoRow : OpenClaim := { program := "ythkofaanekmpmaagreat", sum := "ca9692ecbc24bac4e6c26d845c8af73006e1e1c8c9a958233a6ea96f72230208", func := "cornhill/cornhilllaw26.StandbyLines", spec := "standbyLines", inPlace := ["maps.clone", "math/bits.Add64", "slices.overlaps[cornhill/book.rung]", "slices.overlaps[cornhill/standby.line]"], unfollowed := true, recurses := true, named := ["math/bits.divideError", "math/bits.overflowError"], apart := false, narrowed := true }
def StandbyLinesUptoSaid : Prop := standbyLinesUptoRow.holds Tryz.pinned (OpenSpec.upto standbyLinesSpec)

/-- 'cornhilllaw24.EngineSeqs', WHERE WHAT IT READS IS OF BULK AT MOST 1048576: true; the input reads as it did. -/
def engineSeqsUptoRow : OpenClaim := { program := "ythkofaanekmpmaagreat", sum := "ca9692ecbc24bac4e6c26d845c8af73006e1e1c8c9a958233a6ea96f72230208", func := "cornhill/cornhilllaw24.EngineSeqs", spec := "engineSeqs", inPlace := ["maps.clone", "math/bits.Add64", "slices.overlaps[cornhill/book.rung]"], unfollowed := true, recurses := true, named := ["math/bits.divideError", "math/bits.overflowError"], apart := false, narrowed := true }
def EngineSeqsUptoSaid : Prop := engineSeqsUptoRow.holds Tryz.pinned (OpenSpec.upto engineSeqsSpec)

/-- 'cornhilllaw24.EngineAgain', WHERE WHAT IT READS IS OF BULK AT MOST 1048576: true; the input reads as it did. -/
def engineAgainUptoRow : OpenClaim := { program := "ythkofaanekmpmaagreat", sum := "ca9692ecbc24bac4e6c26d845c8af73006e1e1c8c9a958233a6ea96f72230208", func := "cornhill/cornhilllaw24.EngineAgain", spec := "engineAgain", inPlace := ["maps.clone", "math/bits.Add64", "slices.overlaps[cornhill/book.rung]"], unfollowed := true, recurses := true, named := ["math/bits.divideError", "math/bits.overflowError"], apart := false, narrowed := true }
def EngineAgainUptoSaid : Prop := engineAgainUptoRow.holds Tryz.pinned (OpenSpec.upto engineAgainSpec)

/-- 'cornhilllaw24.EngineRecords', WHERE WHAT IT READS IS OF BULK AT MOST 1048576: true; the input reads as it did. -/
def engineRecordsUptoRow : OpenClaim := { program := "ythkofaanekmpmaagreat", sum := "ca9692ecbc24bac4e6c26d845c8af73006e1e1c8c9a958233a6ea96f72230208", func := "cornhill/cornhilllaw24.EngineRecords", spec := "engineRecords", inPlace := ["maps.clone", "math/bits.Add64", "slices.overlaps[cornhill/book.rung]"], unfollowed := true, recurses := true, named := ["math/bits.divideError", "math/bits.overflowError"], apart := false, narrowed := true }
def EngineRecordsUptoSaid : Prop := engineRecordsUptoRow.holds Tryz.pinned (OpenSpec.upto engineRecordsSpec)

/-- 'cornhilllaw24.EngineTwins', WHERE WHAT IT READS IS OF BULK AT MOST 1048576: true; the input reads as it did. -/
def engineTwinsUptoRow : OpenClaim := { program := "ythkofaanekmpmaagreat", sum := "ca9692ecbc24bac4e6c26d845c8af73006e1e1c8c9a958233a6ea96f72230208", func := "cornhill/cornhilllaw24.EngineTwins", spec := "engineTwins", inPlace := ["maps.clone", "math/bits.Add64", "slices.overlaps[cornhill/book.rung]"], unfollowed := true, recurses := true, named := ["math/bits.divideError", "math/bits.overflowError"], apart := false, narrowed := true }
def EngineTwinsUptoSaid : Prop := engineTwinsUptoRow.holds Tryz.pinned (OpenSpec.upto engineTwinsSpec)

end Rows
end Go.Proofs.YthkofaanekmpmaaGreat
