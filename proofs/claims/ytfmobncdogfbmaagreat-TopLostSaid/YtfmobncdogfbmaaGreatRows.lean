/-
  No cell of these rows narrows 'for every input' (looked for: loops, veiled, ifaces, maps, wideKeys, modest, calm, conditions, laid).
  DERIVED. THE GIVEN ROWS OF THIS SEAT. 8 by the template 'for every input the law returns true; each argument reads behind the call as it read before'; 0 by the template 'total and deterministic' (their statements: YtfmobncdogfbmaaGreatTotals.lean).
  GIVEN WITH THE SEED: the statements are not yours to turn. If you find one false, say at which input.
  Laid BY PROGRAM, IN A SANDBOX (cutbox-rows.mjs): the forced cells as the released guide's own fill.sh prints them over the translation 8329bb91b3774193… (all of the seat's roots in one cut). By AI agents, Wed Nov 11 2026. No macro, syntax, notation, axiom, sorry.
-/
import Derived.Test.YtfmobncdogfbmaaGreatChecked
import GoSem.Claim
import GoSem.ClaimJoined
import GoSem.ClaimMapViews
import Derived.JoinedTies
import Derived.KernelRfl
namespace Go.Proofs.YtfmobncdogfbmaaGreat
/- THE CELL 'sum', in the pinned program and in every row, IS THE sha256 OF THE DUMP (.gsa) THAT YtfmobncdogfbmaaGreatProg.lean LOADS. Nothing in Lean hashes anything: it is a label: what it is worth is what the hold of that sum in a sandbox is worth. -/
noncomputable def Tryz.pinned : Pinned := { name := "ytfmobncdogfbmaagreat", sum := "8329bb91b3774193208e32d2166a87b8cb7ac5b48ec8520d786bc22101262fa3", checked := Tryz.checked }
namespace Rows
def none {H : Type} : Left H := { results := [], args := [] }

/-- 'cornhilltop.TopLate': WHATEVER THE INPUT: true; the input reads as it did. -/
def topLateSpec : ChangeSpec := { name := "topLate", fn := fun _ => fun
  | [d1, d2, d3, d4] => { results := [.lit (.bool true)], args := [d1, d2, d3, d4] }
  | _ => none }
def topLateRow : OpenClaim := { program := "ytfmobncdogfbmaagreat", sum := "8329bb91b3774193208e32d2166a87b8cb7ac5b48ec8520d786bc22101262fa3", func := "cornhill/cornhilltop.TopLate", spec := "topLate", inPlace := ["maps.clone", "math/bits.Add64", "slices.overlaps[cornhill/book.rung]", "slices.overlaps[cornhill/book.Level]", "slices.overlaps[cornhill/api.Msg]"], unfollowed := true, recurses := true, named := ["math/bits.divideError", "math/bits.overflowError"], apart := false }
def TopLateSaid : Prop := topLateRow.holds Tryz.pinned (OpenSpec.ofChange topLateSpec)

/-- ITS FALSE NEIGHBOUR: 'it returns false'. Refute it at one input. -/
def topLateWrong : ChangeSpec := { name := "topLate", fn := fun _ => fun
  | [d1, d2, d3, d4] => { results := [.lit (.bool false)], args := [d1, d2, d3, d4] }
  | _ => none }
def TopLateWrongFalsely : Prop := topLateRow.holds Tryz.pinned (OpenSpec.ofChange topLateWrong)

/-- 'cornhilltop.TopLost': WHATEVER THE INPUT: true; the input reads as it did. -/
def topLostSpec : ChangeSpec := { name := "topLost", fn := fun _ => fun
  | [d1, d2, d3, d4] => { results := [.lit (.bool true)], args := [d1, d2, d3, d4] }
  | _ => none }
def topLostRow : OpenClaim := { program := "ytfmobncdogfbmaagreat", sum := "8329bb91b3774193208e32d2166a87b8cb7ac5b48ec8520d786bc22101262fa3", func := "cornhill/cornhilltop.TopLost", spec := "topLost", inPlace := ["maps.clone", "math/bits.Add64", "slices.overlaps[cornhill/book.rung]", "slices.overlaps[cornhill/book.Level]", "slices.overlaps[cornhill/api.Msg]"], unfollowed := true, recurses := true, named := ["math/bits.divideError", "math/bits.overflowError"], apart := false }
def TopLostSaid : Prop := topLostRow.holds Tryz.pinned (OpenSpec.ofChange topLostSpec)

/-- ITS FALSE NEIGHBOUR: 'it returns false'. Refute it at one input. -/
def topLostWrong : ChangeSpec := { name := "topLost", fn := fun _ => fun
  | [d1, d2, d3, d4] => { results := [.lit (.bool false)], args := [d1, d2, d3, d4] }
  | _ => none }
def TopLostWrongFalsely : Prop := topLostRow.holds Tryz.pinned (OpenSpec.ofChange topLostWrong)

/-- 'cornhilllaw16.MatchPlays': WHATEVER THE INPUT: true; the input reads as it did. -/
def matchPlaysSpec : ChangeSpec := { name := "matchPlays", fn := fun _ => fun
  | [d1, d2] => { results := [.lit (.bool true)], args := [d1, d2] }
  | _ => none }
def matchPlaysRow : OpenClaim := { program := "ytfmobncdogfbmaagreat", sum := "8329bb91b3774193208e32d2166a87b8cb7ac5b48ec8520d786bc22101262fa3", func := "cornhill/cornhilllaw16.MatchPlays", spec := "matchPlays", inPlace := ["slices.overlaps[cornhill/book.rung]", "math/bits.Add64", "maps.clone"], unfollowed := true, recurses := true, named := ["math/bits.divideError", "math/bits.overflowError"], apart := false }
def MatchPlaysSaid : Prop := matchPlaysRow.holds Tryz.pinned (OpenSpec.ofChange matchPlaysSpec)

/-- ITS FALSE NEIGHBOUR: 'it returns false'. Refute it at one input. -/
def matchPlaysWrong : ChangeSpec := { name := "matchPlays", fn := fun _ => fun
  | [d1, d2] => { results := [.lit (.bool false)], args := [d1, d2] }
  | _ => none }
def MatchPlaysWrongFalsely : Prop := matchPlaysRow.holds Tryz.pinned (OpenSpec.ofChange matchPlaysWrong)

/-- 'cornhilllaw16.MatchSmall': WHATEVER THE INPUT: true; the input reads as it did. -/
def matchSmallSpec : ChangeSpec := { name := "matchSmall", fn := fun _ => fun
  | [d1, d2] => { results := [.lit (.bool true)], args := [d1, d2] }
  | _ => none }
def matchSmallRow : OpenClaim := { program := "ytfmobncdogfbmaagreat", sum := "8329bb91b3774193208e32d2166a87b8cb7ac5b48ec8520d786bc22101262fa3", func := "cornhill/cornhilllaw16.MatchSmall", spec := "matchSmall", inPlace := ["slices.overlaps[cornhill/book.rung]", "math/bits.Add64", "maps.clone"], unfollowed := true, recurses := true, named := ["math/bits.divideError", "math/bits.overflowError"], apart := false }
def MatchSmallSaid : Prop := matchSmallRow.holds Tryz.pinned (OpenSpec.ofChange matchSmallSpec)

/-- ITS FALSE NEIGHBOUR: 'it returns false'. Refute it at one input. -/
def matchSmallWrong : ChangeSpec := { name := "matchSmall", fn := fun _ => fun
  | [d1, d2] => { results := [.lit (.bool false)], args := [d1, d2] }
  | _ => none }
def MatchSmallWrongFalsely : Prop := matchSmallRow.holds Tryz.pinned (OpenSpec.ofChange matchSmallWrong)

/-- 'cornhilllaw16.MatchNumbers': WHATEVER THE INPUT: true; the input reads as it did. -/
def matchNumbersSpec : ChangeSpec := { name := "matchNumbers", fn := fun _ => fun
  | [] => { results := [.lit (.bool true)], args := [] }
  | _ => none }
def matchNumbersRow : OpenClaim := { program := "ytfmobncdogfbmaagreat", sum := "8329bb91b3774193208e32d2166a87b8cb7ac5b48ec8520d786bc22101262fa3", func := "cornhill/cornhilllaw16.MatchNumbers", spec := "matchNumbers", inPlace := ["slices.overlaps[cornhill/book.rung]", "math/bits.Add64", "maps.clone"], unfollowed := true, recurses := true, named := ["math/bits.divideError", "math/bits.overflowError"], apart := false }
def MatchNumbersSaid : Prop := matchNumbersRow.holds Tryz.pinned (OpenSpec.ofChange matchNumbersSpec)

/-- ITS FALSE NEIGHBOUR: 'it returns false'. Refute it at one input. -/
def matchNumbersWrong : ChangeSpec := { name := "matchNumbers", fn := fun _ => fun
  | [] => { results := [.lit (.bool false)], args := [] }
  | _ => none }
def MatchNumbersWrongFalsely : Prop := matchNumbersRow.holds Tryz.pinned (OpenSpec.ofChange matchNumbersWrong)

/-- 'cornhilllaw17.MarketPlays': WHATEVER THE INPUT: true; the input reads as it did. -/
def marketPlaysSpec : ChangeSpec := { name := "marketPlays", fn := fun _ => fun
  | [d1, d2] => { results := [.lit (.bool true)], args := [d1, d2] }
  | _ => none }
def marketPlaysRow : OpenClaim := { program := "ytfmobncdogfbmaagreat", sum := "8329bb91b3774193208e32d2166a87b8cb7ac5b48ec8520d786bc22101262fa3", func := "cornhill/cornhilllaw17.MarketPlays", spec := "marketPlays", inPlace := ["maps.clone", "math/bits.Add64", "slices.overlaps[cornhill/book.rung]"], unfollowed := true, recurses := true, named := ["math/bits.divideError", "math/bits.overflowError"], apart := false }
def MarketPlaysSaid : Prop := marketPlaysRow.holds Tryz.pinned (OpenSpec.ofChange marketPlaysSpec)

/-- ITS FALSE NEIGHBOUR: 'it returns false'. Refute it at one input. -/
def marketPlaysWrong : ChangeSpec := { name := "marketPlays", fn := fun _ => fun
  | [d1, d2] => { results := [.lit (.bool false)], args := [d1, d2] }
  | _ => none }
def MarketPlaysWrongFalsely : Prop := marketPlaysRow.holds Tryz.pinned (OpenSpec.ofChange marketPlaysWrong)

/-- 'cornhilllaw17.MarketSmall': WHATEVER THE INPUT: true; the input reads as it did. -/
def marketSmallSpec : ChangeSpec := { name := "marketSmall", fn := fun _ => fun
  | [d1, d2] => { results := [.lit (.bool true)], args := [d1, d2] }
  | _ => none }
def marketSmallRow : OpenClaim := { program := "ytfmobncdogfbmaagreat", sum := "8329bb91b3774193208e32d2166a87b8cb7ac5b48ec8520d786bc22101262fa3", func := "cornhill/cornhilllaw17.MarketSmall", spec := "marketSmall", inPlace := ["maps.clone", "math/bits.Add64", "slices.overlaps[cornhill/book.rung]"], unfollowed := true, recurses := true, named := ["math/bits.divideError", "math/bits.overflowError"], apart := false }
def MarketSmallSaid : Prop := marketSmallRow.holds Tryz.pinned (OpenSpec.ofChange marketSmallSpec)

/-- ITS FALSE NEIGHBOUR: 'it returns false'. Refute it at one input. -/
def marketSmallWrong : ChangeSpec := { name := "marketSmall", fn := fun _ => fun
  | [d1, d2] => { results := [.lit (.bool false)], args := [d1, d2] }
  | _ => none }
def MarketSmallWrongFalsely : Prop := marketSmallRow.holds Tryz.pinned (OpenSpec.ofChange marketSmallWrong)

/-- 'cornhilllaw17.MarketNumbers': WHATEVER THE INPUT: true; the input reads as it did. -/
def marketNumbersSpec : ChangeSpec := { name := "marketNumbers", fn := fun _ => fun
  | [] => { results := [.lit (.bool true)], args := [] }
  | _ => none }
def marketNumbersRow : OpenClaim := { program := "ytfmobncdogfbmaagreat", sum := "8329bb91b3774193208e32d2166a87b8cb7ac5b48ec8520d786bc22101262fa3", func := "cornhill/cornhilllaw17.MarketNumbers", spec := "marketNumbers", inPlace := ["maps.clone", "math/bits.Add64", "slices.overlaps[cornhill/book.rung]"], unfollowed := true, recurses := true, named := ["math/bits.divideError", "math/bits.overflowError"], apart := false }
def MarketNumbersSaid : Prop := marketNumbersRow.holds Tryz.pinned (OpenSpec.ofChange marketNumbersSpec)

/-- ITS FALSE NEIGHBOUR: 'it returns false'. Refute it at one input. -/
def marketNumbersWrong : ChangeSpec := { name := "marketNumbers", fn := fun _ => fun
  | [] => { results := [.lit (.bool false)], args := [] }
  | _ => none }
def MarketNumbersWrongFalsely : Prop := marketNumbersRow.holds Tryz.pinned (OpenSpec.ofChange marketNumbersWrong)

/- THE SECOND FORM. 'bulk': how many values and letters a reading holds, each counted each time it is reached (what is shared counts as often as it is met; a slice's spare places count too). A statement '..UptoSaid' is the law's where the arguments, and the package variables that the reading takes, are together of bulk at most 1048576: NARROWER than '..Said'. Prove '..Said' where nothing that the law and all that it calls make is longer than what came in: it says more and counts as full. Else prove '..UptoSaid'. A law counts once. -/
mutual
def uptoBulk {H : Type} : DataW H → Nat
  | .lit (.string bytes) => bytes.length + 1
  | .lit _ => 1
  | .nil => 1
  | .ptr d => uptoBulk d + 1
  | .slice elems spare => uptoBulkAll elems + uptoBulkAll spare + 1
  | .agg parts => uptoBulkAll parts + 1
  | .iface _ d => uptoBulk d + 1
  | .map entries => uptoBulkEntries entries + 1
  | .held _ => 1
def uptoBulkAll {H : Type} : List (DataW H) → Nat
  | [] => 0
  | d :: r => uptoBulk d + uptoBulkAll r
def uptoBulkEntries {H : Type} : List (Lit × DataW H) → Nat
  | [] => 0
  | x :: r => uptoBulkEntry x + uptoBulkEntries r
def uptoBulkEntry {H : Type} : Lit × DataW H → Nat
  | (.string bytes, d) => bytes.length + uptoBulk d + 1
  | (_, d) => uptoBulk d + 1
 end
def uptoSmall : (H : Type) → List (DataW H) → Bool := fun _ ds => decide (uptoBulkAll ds ≤ 1048576)
def OpenSpec.upto (s : _root_.Go.ChangeSpec) : _root_.Go.OpenSpec := { _root_.Go.OpenSpec.ofChange s with cond := some uptoSmall }

/-- 'cornhilltop.TopLate', WHERE WHAT IT READS IS OF BULK AT MOST 1048576: true; the input reads as it did. -/
def topLateUptoRow : OpenClaim := { program := "ytfmobncdogfbmaagreat", sum := "8329bb91b3774193208e32d2166a87b8cb7ac5b48ec8520d786bc22101262fa3", func := "cornhill/cornhilltop.TopLate", spec := "topLate", inPlace := ["maps.clone", "math/bits.Add64", "slices.overlaps[cornhill/book.rung]", "slices.overlaps[cornhill/book.Level]", "slices.overlaps[cornhill/api.Msg]"], unfollowed := true, recurses := true, named := ["math/bits.divideError", "math/bits.overflowError"], apart := false, narrowed := true }
def TopLateUptoSaid : Prop := topLateUptoRow.holds Tryz.pinned (OpenSpec.upto topLateSpec)

/-- 'cornhilltop.TopLost', WHERE WHAT IT READS IS OF BULK AT MOST 1048576: true; the input reads as it did. -/
def topLostUptoRow : OpenClaim := { program := "ytfmobncdogfbmaagreat", sum := "8329bb91b3774193208e32d2166a87b8cb7ac5b48ec8520d786bc22101262fa3", func := "cornhill/cornhilltop.TopLost", spec := "topLost", inPlace := ["maps.clone", "math/bits.Add64", "slices.overlaps[cornhill/book.rung]", "slices.overlaps[cornhill/book.Level]", "slices.overlaps[cornhill/api.Msg]"], unfollowed := true, recurses := true, named := ["math/bits.divideError", "math/bits.overflowError"], apart := false, narrowed := true }
def TopLostUptoSaid : Prop := topLostUptoRow.holds Tryz.pinned (OpenSpec.upto topLostSpec)

/-- 'cornhilllaw16.MatchPlays', WHERE WHAT IT READS IS OF BULK AT MOST 1048576: true; the input reads as it did. -/
def matchPlaysUptoRow : OpenClaim := { program := "ytfmobncdogfbmaagreat", sum := "8329bb91b3774193208e32d2166a87b8cb7ac5b48ec8520d786bc22101262fa3", func := "cornhill/cornhilllaw16.MatchPlays", spec := "matchPlays", inPlace := ["slices.overlaps[cornhill/book.rung]", "math/bits.Add64", "maps.clone"], unfollowed := true, recurses := true, named := ["math/bits.divideError", "math/bits.overflowError"], apart := false, narrowed := true }
def MatchPlaysUptoSaid : Prop := matchPlaysUptoRow.holds Tryz.pinned (OpenSpec.upto matchPlaysSpec)

/-- 'cornhilllaw16.MatchSmall', WHERE WHAT IT READS IS OF BULK AT MOST 1048576: true; the input reads as it did. -/
def matchSmallUptoRow : OpenClaim := { program := "ytfmobncdogfbmaagreat", sum := "8329bb91b3774193208e32d2166a87b8cb7ac5b48ec8520d786bc22101262fa3", func := "cornhill/cornhilllaw16.MatchSmall", spec := "matchSmall", inPlace := ["slices.overlaps[cornhill/book.rung]", "math/bits.Add64", "maps.clone"], unfollowed := true, recurses := true, named := ["math/bits.divideError", "math/bits.overflowError"], apart := false, narrowed := true }
def MatchSmallUptoSaid : Prop := matchSmallUptoRow.holds Tryz.pinned (OpenSpec.upto matchSmallSpec)

/-- 'cornhilllaw16.MatchNumbers', WHERE WHAT IT READS IS OF BULK AT MOST 1048576: true; the input reads as it did. -/
def matchNumbersUptoRow : OpenClaim := { program := "ytfmobncdogfbmaagreat", sum := "8329bb91b3774193208e32d2166a87b8cb7ac5b48ec8520d786bc22101262fa3", func := "cornhill/cornhilllaw16.MatchNumbers", spec := "matchNumbers", inPlace := ["slices.overlaps[cornhill/book.rung]", "math/bits.Add64", "maps.clone"], unfollowed := true, recurses := true, named := ["math/bits.divideError", "math/bits.overflowError"], apart := false, narrowed := true }
def MatchNumbersUptoSaid : Prop := matchNumbersUptoRow.holds Tryz.pinned (OpenSpec.upto matchNumbersSpec)

/-- 'cornhilllaw17.MarketPlays', WHERE WHAT IT READS IS OF BULK AT MOST 1048576: true; the input reads as it did. -/
def marketPlaysUptoRow : OpenClaim := { program := "ytfmobncdogfbmaagreat", sum := "8329bb91b3774193208e32d2166a87b8cb7ac5b48ec8520d786bc22101262fa3", func := "cornhill/cornhilllaw17.MarketPlays", spec := "marketPlays", inPlace := ["maps.clone", "math/bits.Add64", "slices.overlaps[cornhill/book.rung]"], unfollowed := true, recurses := true, named := ["math/bits.divideError", "math/bits.overflowError"], apart := false, narrowed := true }
def MarketPlaysUptoSaid : Prop := marketPlaysUptoRow.holds Tryz.pinned (OpenSpec.upto marketPlaysSpec)

/-- 'cornhilllaw17.MarketSmall', WHERE WHAT IT READS IS OF BULK AT MOST 1048576: true; the input reads as it did. -/
def marketSmallUptoRow : OpenClaim := { program := "ytfmobncdogfbmaagreat", sum := "8329bb91b3774193208e32d2166a87b8cb7ac5b48ec8520d786bc22101262fa3", func := "cornhill/cornhilllaw17.MarketSmall", spec := "marketSmall", inPlace := ["maps.clone", "math/bits.Add64", "slices.overlaps[cornhill/book.rung]"], unfollowed := true, recurses := true, named := ["math/bits.divideError", "math/bits.overflowError"], apart := false, narrowed := true }
def MarketSmallUptoSaid : Prop := marketSmallUptoRow.holds Tryz.pinned (OpenSpec.upto marketSmallSpec)

/-- 'cornhilllaw17.MarketNumbers', WHERE WHAT IT READS IS OF BULK AT MOST 1048576: true; the input reads as it did. -/
def marketNumbersUptoRow : OpenClaim := { program := "ytfmobncdogfbmaagreat", sum := "8329bb91b3774193208e32d2166a87b8cb7ac5b48ec8520d786bc22101262fa3", func := "cornhill/cornhilllaw17.MarketNumbers", spec := "marketNumbers", inPlace := ["maps.clone", "math/bits.Add64", "slices.overlaps[cornhill/book.rung]"], unfollowed := true, recurses := true, named := ["math/bits.divideError", "math/bits.overflowError"], apart := false, narrowed := true }
def MarketNumbersUptoSaid : Prop := marketNumbersUptoRow.holds Tryz.pinned (OpenSpec.upto marketNumbersSpec)

end Rows
end Go.Proofs.YtfmobncdogfbmaaGreat
