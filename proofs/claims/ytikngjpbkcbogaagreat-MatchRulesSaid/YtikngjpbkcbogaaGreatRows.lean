/-
  No cell of these rows narrows 'for every input' (looked for: loops, veiled, ifaces, maps, wideKeys, modest, calm, conditions, laid).
  DERIVED. THE GIVEN ROWS OF THIS SEAT. 5 by the template 'for every input the law returns true; each argument reads behind the call as it read before'; 0 by the template 'total and deterministic' (their statements: YtikngjpbkcbogaaGreatTotals.lean).
  GIVEN WITH THE SEED: the statements are not yours to turn. If you find one false, say at which input.
  Laid BY PROGRAM, IN A SANDBOX (cutbox-rows.mjs): the forced cells as the released guide's own fill.sh prints them over the translation 200b26dbe165adb4… (all of the seat's roots in one cut). By AI agents, Wed Nov 11 2026. No macro, syntax, notation, axiom, sorry.
-/
import Derived.Test.YtikngjpbkcbogaaGreatChecked
import GoSem.Claim
import GoSem.ClaimJoined
import GoSem.ClaimMapViews
import Derived.JoinedTies
import Derived.KernelRfl
namespace Go.Proofs.YtikngjpbkcbogaaGreat
/- THE CELL 'sum', in the pinned program and in every row, IS THE sha256 OF THE DUMP (.gsa) THAT YtikngjpbkcbogaaGreatProg.lean LOADS. Nothing in Lean hashes anything: it is a label: what it is worth is what the hold of that sum in a sandbox is worth. -/
noncomputable def Tryz.pinned : Pinned := { name := "ytikngjpbkcbogaagreat", sum := "200b26dbe165adb4a27c84ba7d79bfe7f9763d887c30a322feaa5bef75a42d5d", checked := Tryz.checked }
namespace Rows
def none {H : Type} : Left H := { results := [], args := [] }

/-- 'cornhilllaw16.MatchCould': WHATEVER THE INPUT: true; the input reads as it did. -/
def matchCouldSpec : ChangeSpec := { name := "matchCould", fn := fun _ => fun
  | [d1, d2, d3, d4, d5, d6, d7] => { results := [.lit (.bool true)], args := [d1, d2, d3, d4, d5, d6, d7] }
  | _ => none }
def matchCouldRow : OpenClaim := { program := "ytikngjpbkcbogaagreat", sum := "200b26dbe165adb4a27c84ba7d79bfe7f9763d887c30a322feaa5bef75a42d5d", func := "cornhill/cornhilllaw16.MatchCould", spec := "matchCould", inPlace := ["maps.clone", "math/bits.Add64", "slices.overlaps[cornhill/book.rung]"], unfollowed := true, recurses := true, named := ["math/bits.divideError", "math/bits.overflowError"], apart := false }
def MatchCouldSaid : Prop := matchCouldRow.holds Tryz.pinned (OpenSpec.ofChange matchCouldSpec)

/-- ITS FALSE NEIGHBOUR: 'it returns false'. Refute it at one input. -/
def matchCouldWrong : ChangeSpec := { name := "matchCould", fn := fun _ => fun
  | [d1, d2, d3, d4, d5, d6, d7] => { results := [.lit (.bool false)], args := [d1, d2, d3, d4, d5, d6, d7] }
  | _ => none }
def MatchCouldWrongFalsely : Prop := matchCouldRow.holds Tryz.pinned (OpenSpec.ofChange matchCouldWrong)

/-- 'cornhilllaw16.MatchRules': WHATEVER THE INPUT: true; the input reads as it did. -/
def matchRulesSpec : ChangeSpec := { name := "matchRules", fn := fun _ => fun
  | [d1, d2, d3, d4, d5, d6] => { results := [.lit (.bool true)], args := [d1, d2, d3, d4, d5, d6] }
  | _ => none }
def matchRulesRow : OpenClaim := { program := "ytikngjpbkcbogaagreat", sum := "200b26dbe165adb4a27c84ba7d79bfe7f9763d887c30a322feaa5bef75a42d5d", func := "cornhill/cornhilllaw16.MatchRules", spec := "matchRules", inPlace := ["slices.overlaps[cornhill/book.rung]", "maps.clone", "math/bits.Add64"], unfollowed := true, recurses := true, named := ["math/bits.divideError", "math/bits.overflowError"], apart := false }
def MatchRulesSaid : Prop := matchRulesRow.holds Tryz.pinned (OpenSpec.ofChange matchRulesSpec)

/-- ITS FALSE NEIGHBOUR: 'it returns false'. Refute it at one input. -/
def matchRulesWrong : ChangeSpec := { name := "matchRules", fn := fun _ => fun
  | [d1, d2, d3, d4, d5, d6] => { results := [.lit (.bool false)], args := [d1, d2, d3, d4, d5, d6] }
  | _ => none }
def MatchRulesWrongFalsely : Prop := matchRulesRow.holds Tryz.pinned (OpenSpec.ofChange matchRulesWrong)

/-- 'cornhilllaw16.MatchNumbers': WHATEVER THE INPUT: true; the input reads as it did. -/
def matchNumbersSpec : ChangeSpec := { name := "matchNumbers", fn := fun _ => fun
  | [] => { results := [.lit (.bool true)], args := [] }
  | _ => none }
def matchNumbersRow : OpenClaim := { program := "ytikngjpbkcbogaagreat", sum := "200b26dbe165adb4a27c84ba7d79bfe7f9763d887c30a322feaa5bef75a42d5d", func := "cornhill/cornhilllaw16.MatchNumbers", spec := "matchNumbers", inPlace := ["slices.overlaps[cornhill/book.rung]", "math/bits.Add64", "maps.clone"], unfollowed := true, recurses := true, named := ["math/bits.divideError", "math/bits.overflowError"], apart := false }
def MatchNumbersSaid : Prop := matchNumbersRow.holds Tryz.pinned (OpenSpec.ofChange matchNumbersSpec)

/-- ITS FALSE NEIGHBOUR: 'it returns false'. Refute it at one input. -/
def matchNumbersWrong : ChangeSpec := { name := "matchNumbers", fn := fun _ => fun
  | [] => { results := [.lit (.bool false)], args := [] }
  | _ => none }
def MatchNumbersWrongFalsely : Prop := matchNumbersRow.holds Tryz.pinned (OpenSpec.ofChange matchNumbersWrong)

/-- 'cornhilllaw16.MatchPlays': WHATEVER THE INPUT: true; the input reads as it did. -/
def matchPlaysSpec : ChangeSpec := { name := "matchPlays", fn := fun _ => fun
  | [d1, d2] => { results := [.lit (.bool true)], args := [d1, d2] }
  | _ => none }
def matchPlaysRow : OpenClaim := { program := "ytikngjpbkcbogaagreat", sum := "200b26dbe165adb4a27c84ba7d79bfe7f9763d887c30a322feaa5bef75a42d5d", func := "cornhill/cornhilllaw16.MatchPlays", spec := "matchPlays", inPlace := ["slices.overlaps[cornhill/book.rung]", "math/bits.Add64", "maps.clone"], unfollowed := true, recurses := true, named := ["math/bits.divideError", "math/bits.overflowError"], apart := false }
def MatchPlaysSaid : Prop := matchPlaysRow.holds Tryz.pinned (OpenSpec.ofChange matchPlaysSpec)

/-- ITS FALSE NEIGHBOUR: 'it returns false'. Refute it at one input. -/
def matchPlaysWrong : ChangeSpec := { name := "matchPlays", fn := fun _ => fun
  | [d1, d2] => { results := [.lit (.bool false)], args := [d1, d2] }
  | _ => none }
def MatchPlaysWrongFalsely : Prop := matchPlaysRow.holds Tryz.pinned (OpenSpec.ofChange matchPlaysWrong)

/-- 'cornhilllaw16.MatchSmall': WHATEVER THE INPUT: true; the input reads as it did. -/
def matchSmallSpec : ChangeSpec := { name := "matchSmall", fn := fun _ => fun
  | [d1, d2] => { results := [.lit (.bool true)], args := [d1, d2] }
  | _ => none }
def matchSmallRow : OpenClaim := { program := "ytikngjpbkcbogaagreat", sum := "200b26dbe165adb4a27c84ba7d79bfe7f9763d887c30a322feaa5bef75a42d5d", func := "cornhill/cornhilllaw16.MatchSmall", spec := "matchSmall", inPlace := ["slices.overlaps[cornhill/book.rung]", "math/bits.Add64", "maps.clone"], unfollowed := true, recurses := true, named := ["math/bits.divideError", "math/bits.overflowError"], apart := false }
def MatchSmallSaid : Prop := matchSmallRow.holds Tryz.pinned (OpenSpec.ofChange matchSmallSpec)

/-- ITS FALSE NEIGHBOUR: 'it returns false'. Refute it at one input. -/
def matchSmallWrong : ChangeSpec := { name := "matchSmall", fn := fun _ => fun
  | [d1, d2] => { results := [.lit (.bool false)], args := [d1, d2] }
  | _ => none }
def MatchSmallWrongFalsely : Prop := matchSmallRow.holds Tryz.pinned (OpenSpec.ofChange matchSmallWrong)

/- THE SECOND FORM. 'bulk': how many values and letters a reading holds, each counted each time it is reached (what is shared counts as often as it is met; a slice's spare places count too). A statement '..UptoSaid' is the law's where the arguments, and the package variables that the reading takes, are together of bulk at most 1048576: NARROWER than '..Said'. Prove '..Said' where nothing that the law and all that it calls make is longer than what came in: it says more and counts as full. Else prove '..UptoSaid'. A law counts once. -/
mutual
def uptoBulk {H : Type} : DataW H → Nat
  | .lit (.string bytes) => bytes.length + 1
  | .lit _ => 1
  | .nil => 1
  | .ptr d => uptoBulk d + 1
  | .slice elems spare => uptoBulkAll elems + uptoBulkAll spare + 1
  | .agg parts => uptoBulkAll parts + 1
  | .iface _ d => uptoBulk d + 1
  | .map entries => uptoBulkEntries entries + 1
  | .held _ => 1
def uptoBulkAll {H : Type} : List (DataW H) → Nat
  | [] => 0
  | d :: r => uptoBulk d + uptoBulkAll r
def uptoBulkEntries {H : Type} : List (Lit × DataW H) → Nat
  | [] => 0
  | x :: r => uptoBulkEntry x + uptoBulkEntries r
def uptoBulkEntry {H : Type} : Lit × DataW H → Nat
  | (.string bytes, d) => bytes.length + uptoBulk d + 1
  | (_, d) => uptoBulk d + 1
 end
def uptoSmall : (H : Type) → List (DataW H) → Bool := fun _ ds => decide (uptoBulkAll ds ≤ 1048576)
def OpenSpec.upto (s : _root_.Go.ChangeSpec) : _root_.Go.OpenSpec := { _root_.Go.OpenSpec.ofChange s with cond := some uptoSmall }

/-- 'cornhilllaw16.MatchCould', WHERE WHAT IT READS IS OF BULK AT MOST 1048576: true; the input reads as it did. -/
def matchCouldUptoRow : OpenClaim := { program := "ytikngjpbkcbogaagreat", sum := "200b26dbe165adb4a27c84ba7d79bfe7f9763d887c30a322feaa5bef75a42d5d", func := "cornhill/cornhilllaw16.MatchCould", spec := "matchCould", inPlace := ["maps.clone", "math/bits.Add64", "slices.overlaps[cornhill/book.rung]"], unfollowed := true, recurses := true, named := ["math/bits.divideError", "math/bits.overflowError"], apart := false, narrowed := true }
def MatchCouldUptoSaid : Prop := matchCouldUptoRow.holds Tryz.pinned (OpenSpec.upto matchCouldSpec)

/-- 'cornhilllaw16.MatchRules', WHERE WHAT IT READS IS OF BULK AT MOST 1048576: true; the input reads as it did. -/
def matchRulesUptoRow : OpenClaim := { program := "ytikngjpbkcbogaagreat", sum := "200b26dbe165adb4a27c84ba7d79bfe7f9763d887c30a322feaa5bef75a42d5d", func := "cornhill/cornhilllaw16.MatchRules", spec := "matchRules", inPlace := ["slices.overlaps[cornhill/book.rung]", "maps.clone", "math/bits.Add64"], unfollowed := true, recurses := true, named := ["math/bits.divideError", "math/bits.overflowError"], apart := false, narrowed := true }
def MatchRulesUptoSaid : Prop := matchRulesUptoRow.holds Tryz.pinned (OpenSpec.upto matchRulesSpec)

/-- 'cornhilllaw16.MatchNumbers', WHERE WHAT IT READS IS OF BULK AT MOST 1048576: true; the input reads as it did. -/
def matchNumbersUptoRow : OpenClaim := { program := "ytikngjpbkcbogaagreat", sum := "200b26dbe165adb4a27c84ba7d79bfe7f9763d887c30a322feaa5bef75a42d5d", func := "cornhill/cornhilllaw16.MatchNumbers", spec := "matchNumbers", inPlace := ["slices.overlaps[cornhill/book.rung]", "math/bits.Add64", "maps.clone"], unfollowed := true, recurses := true, named := ["math/bits.divideError", "math/bits.overflowError"], apart := false, narrowed := true }
def MatchNumbersUptoSaid : Prop := matchNumbersUptoRow.holds Tryz.pinned (OpenSpec.upto matchNumbersSpec)

/-- 'cornhilllaw16.MatchPlays', WHERE WHAT IT READS IS OF BULK AT MOST 1048576: true; the input reads as it did. -/
def matchPlaysUptoRow : OpenClaim := { program := "ytikngjpbkcbogaagreat", sum := "200b26dbe165adb4a27c84ba7d79bfe7f9763d887c30a322feaa5bef75a42d5d", func := "cornhill/cornhilllaw16.MatchPlays", spec := "matchPlays", inPlace := ["slices.overlaps[cornhill/book.rung]", "math/bits.Add64", "maps.clone"], unfollowed := true, recurses := true, named := ["math/bits.divideError", "math/bits.overflowError"], apart := false, narrowed := true }
def MatchPlaysUptoSaid : Prop := matchPlaysUptoRow.holds Tryz.pinned (OpenSpec.upto matchPlaysSpec)

/-- 'cornhilllaw16.MatchSmall', WHERE WHAT IT READS IS OF BULK AT MOST 1048576: true; the input reads as it did. -/
def matchSmallUptoRow : OpenClaim := { program := "ytikngjpbkcbogaagreat", sum := "200b26dbe165adb4a27c84ba7d79bfe7f9763d887c30a322feaa5bef75a42d5d", func := "cornhill/cornhilllaw16.MatchSmall", spec := "matchSmall", inPlace := ["slices.overlaps[cornhill/book.rung]", "math/bits.Add64", "maps.clone"], unfollowed := true, recurses := true, named := ["math/bits.divideError", "math/bits.overflowError"], apart := false, narrowed := true }
def MatchSmallUptoSaid : Prop := matchSmallUptoRow.holds Tryz.pinned (OpenSpec.upto matchSmallSpec)

end Rows
end Go.Proofs.YtikngjpbkcbogaaGreat
