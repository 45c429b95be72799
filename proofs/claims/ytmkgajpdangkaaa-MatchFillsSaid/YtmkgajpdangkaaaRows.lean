/-
  No cell of these rows narrows 'for every input' (looked for: loops, veiled, ifaces, maps, wideKeys, modest, calm, conditions, laid).
  DERIVED. THE GIVEN ROWS OF THIS SEAT. 3 by the template 'for every input the law returns true; each argument reads behind the call as it read before'; 0 by the template 'total and deterministic' (their statements: YtmkgajpdangkaaaTotals.lean).
  GIVEN WITH THE SEED: the statements are not yours to turn. If you find one false, say at which input.
  Laid BY PROGRAM, IN A SANDBOX (cutbox-rows.mjs): the forced cells as the released guide's own fill.sh prints them over the translation e8839d7933a84b27… (all of the seat's roots in one cut). By AI agents, Wed Nov 11 2026. No macro, syntax, notation, axiom, sorry.
-/
import Derived.Test.YtmkgajpdangkaaaChecked
import GoSem.Claim
import GoSem.ClaimJoined
import GoSem.ClaimMapViews
import Derived.JoinedTies
import Derived.KernelRfl
namespace Go.Proofs.Ytmkgajpdangkaaa
/- THE CELL 'sum', in the pinned program and in every row, IS THE sha256 OF THE DUMP (.gsa) THAT YtmkgajpdangkaaaProg.lean LOADS. Nothing in Lean hashes anything: it is a label: what it is worth is what the hold of that sum in a sandbox is worth. -/
noncomputable def Try.pinned : Pinned := { name := "ytmkgajpdangkaaa", sum := "e8839d7933a84b2771f6230ce0d4843dd1ea4c2b8d68645f76b227a211c831cb", checked := Try.checked }
namespace Rows
def none {H : Type} : Left H := { results := [], args := [] }

/-- 'cornhilllaw16.MatchMirror': WHATEVER THE INPUT: true; the input reads as it did. -/
def matchMirrorSpec : ChangeSpec := { name := "matchMirror", fn := fun _ => fun
  | [d1, d2] => { results := [.lit (.bool true)], args := [d1, d2] }
  | _ => none }
def matchMirrorRow : OpenClaim := { program := "ytmkgajpdangkaaa", sum := "e8839d7933a84b2771f6230ce0d4843dd1ea4c2b8d68645f76b227a211c831cb", func := "cornhill/cornhilllaw16.MatchMirror", spec := "matchMirror", inPlace := ["slices.overlaps[cornhill/book.rung]", "math/bits.Add64"], unfollowed := true, recurses := true, named := ["math/bits.divideError", "math/bits.overflowError"], apart := false }
def MatchMirrorSaid : Prop := matchMirrorRow.holds Try.pinned (OpenSpec.ofChange matchMirrorSpec)

/-- ITS FALSE NEIGHBOUR: 'it returns false'. Refute it at one input. -/
def matchMirrorWrong : ChangeSpec := { name := "matchMirror", fn := fun _ => fun
  | [d1, d2] => { results := [.lit (.bool false)], args := [d1, d2] }
  | _ => none }
def MatchMirrorWrongFalsely : Prop := matchMirrorRow.holds Try.pinned (OpenSpec.ofChange matchMirrorWrong)

/-- 'cornhilllaw16.MatchFills': WHATEVER THE INPUT: true; the input reads as it did. -/
def matchFillsSpec : ChangeSpec := { name := "matchFills", fn := fun _ => fun
  | [d1, d2, d3, d4, d5, d6] => { results := [.lit (.bool true)], args := [d1, d2, d3, d4, d5, d6] }
  | _ => none }
def matchFillsRow : OpenClaim := { program := "ytmkgajpdangkaaa", sum := "e8839d7933a84b2771f6230ce0d4843dd1ea4c2b8d68645f76b227a211c831cb", func := "cornhill/cornhilllaw16.MatchFills", spec := "matchFills", inPlace := ["slices.overlaps[cornhill/book.rung]", "math/bits.Add64"], unfollowed := true, recurses := true, named := ["math/bits.divideError", "math/bits.overflowError"], apart := false }
def MatchFillsSaid : Prop := matchFillsRow.holds Try.pinned (OpenSpec.ofChange matchFillsSpec)

/-- ITS FALSE NEIGHBOUR: 'it returns false'. Refute it at one input. -/
def matchFillsWrong : ChangeSpec := { name := "matchFills", fn := fun _ => fun
  | [d1, d2, d3, d4, d5, d6] => { results := [.lit (.bool false)], args := [d1, d2, d3, d4, d5, d6] }
  | _ => none }
def MatchFillsWrongFalsely : Prop := matchFillsRow.holds Try.pinned (OpenSpec.ofChange matchFillsWrong)

/-- 'cornhilllaw16.MatchMonths': WHATEVER THE INPUT: true; the input reads as it did. -/
def matchMonthsSpec : ChangeSpec := { name := "matchMonths", fn := fun _ => fun
  | [d1, d2, d3, d4, d5, d6] => { results := [.lit (.bool true)], args := [d1, d2, d3, d4, d5, d6] }
  | _ => none }
def matchMonthsRow : OpenClaim := { program := "ytmkgajpdangkaaa", sum := "e8839d7933a84b2771f6230ce0d4843dd1ea4c2b8d68645f76b227a211c831cb", func := "cornhill/cornhilllaw16.MatchMonths", spec := "matchMonths", inPlace := ["slices.overlaps[cornhill/book.rung]", "math/bits.Add64"], unfollowed := true, recurses := true, named := ["math/bits.divideError", "math/bits.overflowError"], apart := false }
def MatchMonthsSaid : Prop := matchMonthsRow.holds Try.pinned (OpenSpec.ofChange matchMonthsSpec)

/-- ITS FALSE NEIGHBOUR: 'it returns false'. Refute it at one input. -/
def matchMonthsWrong : ChangeSpec := { name := "matchMonths", fn := fun _ => fun
  | [d1, d2, d3, d4, d5, d6] => { results := [.lit (.bool false)], args := [d1, d2, d3, d4, d5, d6] }
  | _ => none }
def MatchMonthsWrongFalsely : Prop := matchMonthsRow.holds Try.pinned (OpenSpec.ofChange matchMonthsWrong)

/- THE SECOND FORM. 'bulk': how many values and letters a reading holds, each counted each time it is reached (what is shared counts as often as it is met; a slice's spare places count too). A statement '..UptoSaid' is the law's where the arguments, and the package variables that the reading takes, are together of bulk at most 1048576: NARROWER than '..Said'. Prove '..Said' where nothing that the law and all that it calls make is longer than what came in: it says more and counts as full. Else prove '..UptoSaid'. A law counts once. -/
mutual
def uptoBulk {H : Type} : DataW H → Nat
  | .lit (.string bytes) => bytes.length + 1
  | .lit _ => 1
  | .nil => 1
  | .ptr d => uptoBulk d + 1
  | .slice elems spare => uptoBulkAll elems + uptoBulkAll spare + 1
  | .agg parts => uptoBulkAll parts + 1
  | .iface _ d => uptoBulk d + 1
  | .map entries => uptoBulkEntries entries + 1
  | .held _ => 1
def uptoBulkAll {H : Type} : List (DataW H) → Nat
  | [] => 0
  | d :: r => uptoBulk d + uptoBulkAll r
def uptoBulkEntries {H : Type} : List (Lit × DataW H) → Nat
  | [] => 0
  | x :: r => uptoBulkEntry x + uptoBulkEntries r
def uptoBulkEntry {H : Type} : Lit × DataW H → Nat
  | (.string bytes, d) => bytes.length + uptoBulk d + 1
  | (_, d) => uptoBulk d + 1
 end
def uptoSmall : (H : Type) → List (DataW H) → Bool := fun _ ds => decide (uptoBulkAll ds ≤ 1048576)
def OpenSpec.upto (s : _root_.Go.ChangeSpec) : _root_.Go.OpenSpec := { _root_.Go.OpenSpec.ofChange s with cond := some uptoSmall }

/-- 'cornhilllaw16.MatchMirror', WHERE WHAT IT READS IS OF BULK AT MOST 1048576: true; the input reads as it did. -/
def matchMirrorUptoRow : OpenClaim := { program := "ytmkgajpdangkaaa", sum := "e8839d7933a84b2771f6230ce0d4843dd1ea4c2b8d68645f76b227a211c831cb", func := "cornhill/cornhilllaw16.MatchMirror", spec := "matchMirror", inPlace := ["slices.overlaps[cornhill/book.rung]", "math/bits.Add64"], unfollowed := true, recurses := true, named := ["math/bits.divideError", "math/bits.overflowError"], apart := false, narrowed := true }
def MatchMirrorUptoSaid : Prop := matchMirrorUptoRow.holds Try.pinned (OpenSpec.upto matchMirrorSpec)

/-- 'cornhilllaw16.MatchFills', WHERE WHAT IT READS IS OF BULK AT MOST 1048576: true; the input reads as it did. -/
def matchFillsUptoRow : OpenClaim := { program := "ytmkgajpdangkaaa", sum := "e8839d7933a84b2771f6230ce0d4843dd1ea4c2b8d68645f76b227a211c831cb", func := "cornhill/cornhilllaw16.MatchFills", spec := "matchFills", inPlace := ["slices.overlaps[cornhill/book.rung]", "math/bits.Add64"], unfollowed := true, recurses := true, named := ["math/bits.divideError", "math/bits.overflowError"], apart := false, narrowed := true }
def MatchFillsUptoSaid : Prop := matchFillsUptoRow.holds Try.pinned (OpenSpec.upto matchFillsSpec)

/-- 'cornhilllaw16.MatchMonths', WHERE WHAT IT READS IS OF BULK AT MOST 1048576: true; the input reads as it did. -/
def matchMonthsUptoRow : OpenClaim := { program := "ytmkgajpdangkaaa", sum := "e8839d7933a84b2771f6230ce0d4843dd1ea4c2b8d68645f76b227a211c831cb", func := "cornhill/cornhilllaw16.MatchMonths", spec := "matchMonths", inPlace := ["slices.overlaps[cornhill/book.rung]", "math/bits.Add64"], unfollowed := true, recurses := true, named := ["math/bits.divideError", "math/bits.overflowError"], apart := false, narrowed := true }
def MatchMonthsUptoSaid : Prop := matchMonthsUptoRow.holds Try.pinned (OpenSpec.upto matchMonthsSpec)

end Rows
end Go.Proofs.Ytmkgajpdangkaaa
