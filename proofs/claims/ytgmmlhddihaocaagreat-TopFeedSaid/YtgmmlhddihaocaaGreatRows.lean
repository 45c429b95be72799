/-
  No cell of these rows narrows 'for every input' (looked for: loops, veiled, ifaces, maps, wideKeys, modest, calm, conditions, laid).
  DERIVED. THE GIVEN ROWS OF THIS SEAT. 4 by the template 'for every input the law returns true; each argument reads behind the call as it read before'; 0 by the template 'total and deterministic' (their statements: YtgmmlhddihaocaaGreatTotals.lean).
  GIVEN WITH THE SEED: the statements are not yours to turn. If you find one false, say at which input.
  Laid BY PROGRAM, IN A SANDBOX (cutbox-rows.mjs): the forced cells as the released guide's own fill.sh prints them over the translation 1cc3876d5c31cb73… (all of the seat's roots in one cut). By AI agents, Wed Nov 11 2026. No macro, syntax, notation, axiom, sorry.
-/
import Derived.Test.YtgmmlhddihaocaaGreatChecked
import GoSem.Claim
import GoSem.ClaimJoined
import GoSem.ClaimMapViews
import Derived.JoinedTies
import Derived.KernelRfl
namespace Go.Proofs.YtgmmlhddihaocaaGreat
/- THE CELL 'sum', in the pinned program and in every row, IS THE sha256 OF THE DUMP (.gsa) THAT YtgmmlhddihaocaaGreatProg.lean LOADS. Nothing in Lean hashes anything: it is a label: what it is worth is what the hold of that sum in a sandbox is worth. -/
noncomputable def Tryz.pinned : Pinned := { name := "ytgmmlhddihaocaagreat", sum := "1cc3876d5c31cb737097e43d88067f66b7e6391bf0aa69125dd14d645474f61e", checked := Tryz.checked }
namespace Rows
def none {H : Type} : Left H := { results := [], args := [] }

/-- 'cornhilltop.TopInOrder': WHATEVER THE INPUT: true; the input reads as it did. -/
def topInOrderSpec : ChangeSpec := { name := "topInOrder", fn := fun _ => fun
  | [d1, d2, d3] => { results := [.lit (.bool true)], args := [d1, d2, d3] }
  | _ => none }
def topInOrderRow : OpenClaim := { program := "ytgmmlhddihaocaagreat", sum := "1cc3876d5c31cb737097e43d88067f66b7e6391bf0aa69125dd14d645474f61e", func := "cornhill/cornhilltop.TopInOrder", spec := "topInOrder", inPlace := ["maps.clone", "math/bits.Add64", "slices.overlaps[cornhill/book.rung]"], unfollowed := true, recurses := true, named := ["math/bits.divideError", "math/bits.overflowError"], apart := false }
def TopInOrderSaid : Prop := topInOrderRow.holds Tryz.pinned (OpenSpec.ofChange topInOrderSpec)

/-- ITS FALSE NEIGHBOUR: 'it returns false'. Refute it at one input. -/
def topInOrderWrong : ChangeSpec := { name := "topInOrder", fn := fun _ => fun
  | [d1, d2, d3] => { results := [.lit (.bool false)], args := [d1, d2, d3] }
  | _ => none }
def TopInOrderWrongFalsely : Prop := topInOrderRow.holds Tryz.pinned (OpenSpec.ofChange topInOrderWrong)

/-- 'cornhilltop.TopChain': WHATEVER THE INPUT: true; the input reads as it did. -/
def topChainSpec : ChangeSpec := { name := "topChain", fn := fun _ => fun
  | [d1, d2, d3, d4] => { results := [.lit (.bool true)], args := [d1, d2, d3, d4] }
  | _ => none }
def topChainRow : OpenClaim := { program := "ytgmmlhddihaocaagreat", sum := "1cc3876d5c31cb737097e43d88067f66b7e6391bf0aa69125dd14d645474f61e", func := "cornhill/cornhilltop.TopChain", spec := "topChain", inPlace := ["maps.clone", "math/bits.Add64", "slices.overlaps[cornhill/book.rung]", "slices.overlaps[cornhill/standby.line]"], unfollowed := true, recurses := true, named := ["math/bits.divideError", "math/bits.overflowError"], apart := false }
def TopChainSaid : Prop := topChainRow.holds Tryz.pinned (OpenSpec.ofChange topChainSpec)

/-- ITS FALSE NEIGHBOUR: 'it returns false'. Refute it at one input. -/
def topChainWrong : ChangeSpec := { name := "topChain", fn := fun _ => fun
  | [d1, d2, d3, d4] => { results := [.lit (.bool false)], args := [d1, d2, d3, d4] }
  | _ => none }
def TopChainWrongFalsely : Prop := topChainRow.holds Tryz.pinned (OpenSpec.ofChange topChainWrong)

/-- 'cornhilltop.TopStandby': WHATEVER THE INPUT: true; the input reads as it did. -/
def topStandbySpec : ChangeSpec := { name := "topStandby", fn := fun _ => fun
  | [d1, d2, d3, d4, d5] => { results := [.lit (.bool true)], args := [d1, d2, d3, d4, d5] }
  | _ => none }
def topStandbyRow : OpenClaim := { program := "ytgmmlhddihaocaagreat", sum := "1cc3876d5c31cb737097e43d88067f66b7e6391bf0aa69125dd14d645474f61e", func := "cornhill/cornhilltop.TopStandby", spec := "topStandby", inPlace := ["maps.clone", "math/bits.Add64", "slices.overlaps[cornhill/book.rung]", "slices.overlaps[cornhill/standby.line]"], unfollowed := true, recurses := true, named := ["math/bits.divideError", "math/bits.overflowError"], apart := false }
def TopStandbySaid : Prop := topStandbyRow.holds Tryz.pinned (OpenSpec.ofChange topStandbySpec)

/-- ITS FALSE NEIGHBOUR: 'it returns false'. Refute it at one input. -/
def topStandbyWrong : ChangeSpec := { name := "topStandby", fn := fun _ => fun
  | [d1, d2, d3, d4, d5] => { results := [.lit (.bool false)], args := [d1, d2, d3, d4, d5] }
  | _ => none }
def TopStandbyWrongFalsely : Prop := topStandbyRow.holds Tryz.pinned (OpenSpec.ofChange topStandbyWrong)

/-- 'cornhilltop.TopFeed': WHATEVER THE INPUT: true; the input reads as it did. -/
def topFeedSpec : ChangeSpec := { name := "topFeed", fn := fun _ => fun
  | [d1, d2, d3, d4] => { results := [.lit (.bool true)], args := [d1, d2, d3, d4] }
  | _ => none }
def topFeedRow : OpenClaim := { program := "ytgmmlhddihaocaagreat", sum := "1cc3876d5c31cb737097e43d88067f66b7e6391bf0aa69125dd14d645474f61e", func := "cornhill/cornhilltop.TopFeed", spec := "topFeed", inPlace := ["maps.clone", "math/bits.Add64", "slices.overlaps[cornhill/book.rung]", "slices.overlaps[cornhill/book.Level]", "slices.overlaps[cornhill/api.Msg]"], unfollowed := true, recurses := true, named := ["math/bits.divideError", "math/bits.overflowError"], apart := false }
def TopFeedSaid : Prop := topFeedRow.holds Tryz.pinned (OpenSpec.ofChange topFeedSpec)

/-- ITS FALSE NEIGHBOUR: 'it returns false'. Refute it at one input. -/
def topFeedWrong : ChangeSpec := { name := "topFeed", fn := fun _ => fun
  | [d1, d2, d3, d4] => { results := [.lit (.bool false)], args := [d1, d2, d3, d4] }
  | _ => none }
def TopFeedWrongFalsely : Prop := topFeedRow.holds Tryz.pinned (OpenSpec.ofChange topFeedWrong)

/- THE SECOND FORM. 'bulk': how many values and letters a reading holds, each counted each time it is reached (what is shared counts as often as it is met; a slice's spare places count too). A statement '..UptoSaid' is the law's where the arguments, and the package variables that the reading takes, are together of bulk at most 1048576: NARROWER than '..Said'. Prove '..Said' where nothing that the law and all that it calls make is longer than what came in: it says more and counts as full. Else prove '..UptoSaid'. A law counts once. -/
mutual
def uptoBulk {H : Type} : DataW H → Nat
  | .lit (.string bytes) => bytes.length + 1
  | .lit _ => 1
  | .nil => 1
  | .ptr d => uptoBulk d + 1
  | .slice elems spare => uptoBulkAll elems + uptoBulkAll spare + 1
  | .agg parts => uptoBulkAll parts + 1
  | .iface _ d => uptoBulk d + 1
  | .map entries => uptoBulkEntries entries + 1
  | .held _ => 1
def uptoBulkAll {H : Type} : List (DataW H) → Nat
  | [] => 0
  | d :: r => uptoBulk d + uptoBulkAll r
def uptoBulkEntries {H : Type} : List (Lit × DataW H) → Nat
  | [] => 0
  | x :: r => uptoBulkEntry x + uptoBulkEntries r
def uptoBulkEntry {H : Type} : Lit × DataW H → Nat
  | (.string bytes, d) => bytes.length + uptoBulk d + 1
  | (_, d) => uptoBulk d + 1
 end
def uptoSmall : (H : Type) → List (DataW H) → Bool := fun _ ds => decide (uptoBulkAll ds ≤ 1048576)
def OpenSpec.upto (s : _root_.Go.ChangeSpec) : _root_.Go.OpenSpec := { _root_.Go.OpenSpec.ofChange s with cond := some uptoSmall }

/-- 'cornhilltop.TopInOrder', WHERE WHAT IT READS IS OF BULK AT MOST 1048576: true; the input reads as it did. -/
def topInOrderUptoRow : OpenClaim := { program := "ytgmmlhddihaocaagreat", sum := "1cc3876d5c31cb737097e43d88067f66b7e6391bf0aa69125dd14d645474f61e", func := "cornhill/cornhilltop.TopInOrder", spec := "topInOrder", inPlace := ["maps.clone", "math/bits.Add64", "slices.overlaps[cornhill/book.rung]"], unfollowed := true, recurses := true, named := ["math/bits.divideError", "math/bits.overflowError"], apart := false, narrowed := true }
def TopInOrderUptoSaid : Prop := topInOrderUptoRow.holds Tryz.pinned (OpenSpec.upto topInOrderSpec)

/-- 'cornhilltop.TopChain', WHERE WHAT IT READS IS OF BULK AT MOST 1048576: true; the input reads as it did. -/
def topChainUptoRow : OpenClaim := { program := "ytgmmlhddihaocaagreat", sum := "1cc3876d5c31cb737097e43d88067f66b7e6391bf0aa69125dd14d645474f61e", func := "cornhill/cornhilltop.TopChain", spec := "topChain", inPlace := ["maps.clone", "math/bits.Add64", "slices.overlaps[cornhill/book.rung]", "slices.overlaps[cornhill/standby.line]"], unfollowed := true, recurses := true, named := ["math/bits.divideError", "math/bits.overflowError"], apart := false, narrowed := true }
def TopChainUptoSaid : Prop := topChainUptoRow.holds Tryz.pinned (OpenSpec.upto topChainSpec)

/-- 'cornhilltop.TopStandby', WHERE WHAT IT READS IS OF BULK AT MOST 1048576: true; the input reads as it did. -/
def topStandbyUptoRow : OpenClaim := { program := "ytgmmlhddihaocaagreat", sum := "1cc3876d5c31cb737097e43d88067f66b7e6391bf0aa69125dd14d645474f61e", func := "cornhill/cornhilltop.TopStandby", spec := "topStandby", inPlace := ["maps.clone", "math/bits.Add64", "slices.overlaps[cornhill/book.rung]", "slices.overlaps[cornhill/standby.line]"], unfollowed := true, recurses := true, named := ["math/bits.divideError", "math/bits.overflowError"], apart := false, narrowed := true }
def TopStandbyUptoSaid : Prop := topStandbyUptoRow.holds Tryz.pinned (OpenSpec.upto topStandbySpec)

/-- 'cornhilltop.TopFeed', WHERE WHAT IT READS IS OF BULK AT MOST 1048576: true; the input reads as it did. -/
def topFeedUptoRow : OpenClaim := { program := "ytgmmlhddihaocaagreat", sum := "1cc3876d5c31cb737097e43d88067f66b7e6391bf0aa69125dd14d645474f61e", func := "cornhill/cornhilltop.TopFeed", spec := "topFeed", inPlace := ["maps.clone", "math/bits.Add64", "slices.overlaps[cornhill/book.rung]", "slices.overlaps[cornhill/book.Level]", "slices.overlaps[cornhill/api.Msg]"], unfollowed := true, recurses := true, named := ["math/bits.divideError", "math/bits.overflowError"], apart := false, narrowed := true }
def TopFeedUptoSaid : Prop := topFeedUptoRow.holds Tryz.pinned (OpenSpec.upto topFeedSpec)

end Rows
end Go.Proofs.YtgmmlhddihaocaaGreat
