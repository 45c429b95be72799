/-
  No cell of these rows narrows 'for every input' (looked for: loops, veiled, ifaces, maps, wideKeys, modest, calm, conditions, laid).
  DERIVED. THE GIVEN ROWS OF THIS SEAT. 3 by the template 'for every input the law returns true; each argument reads behind the call as it read before'; 0 by the template 'total and deterministic' (their statements: YtphifgepggjcnaaTotals.lean).
  GIVEN WITH THE SEED: the statements are not yours to turn. If you find one false, say at which input.
  Laid BY PROGRAM, IN A SANDBOX (cutbox-rows.mjs): the forced cells as the released guide's own fill.sh prints them over the translation 4ed3d378eb4b4500… (all of the seat's roots in one cut). By AI agents, Wed Nov 11 2026. No macro, syntax, notation, axiom, sorry.
-/
import Derived.Test.YtphifgepggjcnaaChecked
import GoSem.Claim
import GoSem.ClaimJoined
import GoSem.ClaimMapViews
import Derived.JoinedTies
import Derived.KernelRfl
namespace Go.Proofs.Ytphifgepggjcnaa
/- THE CELL 'sum', in the pinned program and in every row, IS THE sha256 OF THE DUMP (.gsa) THAT YtphifgepggjcnaaProg.lean LOADS. Nothing in Lean hashes anything: it is a label: what it is worth is what the hold of that sum in a sandbox is worth. -/
noncomputable def Try.pinned : Pinned := { name := "ytphifgepggjcnaa", sum := "4ed3d378eb4b4500d28ccc919dd5ff769806197f6c1e9e171182f09dfb528f50", checked := Try.checked }
namespace Rows
def none {H : Type} : Left H := { results := [], args := [] }

/-- 'cornhilllaw25.AuditLeft': WHATEVER THE INPUT: true; the input reads as it did. -/
def auditLeftSpec : ChangeSpec := { name := "auditLeft", fn := fun _ => fun
  | [d1, d2, d3] => { results := [.lit (.bool true)], args := [d1, d2, d3] }
  | _ => none }
def auditLeftRow : OpenClaim := { program := "ytphifgepggjcnaa", sum := "4ed3d378eb4b4500d28ccc919dd5ff769806197f6c1e9e171182f09dfb528f50", func := "cornhill/cornhilllaw25.AuditLeft", spec := "auditLeft", inPlace := ["maps.clone"], unfollowed := true, recurses := true, apart := false }
def AuditLeftSaid : Prop := auditLeftRow.holds Try.pinned (OpenSpec.ofChange auditLeftSpec)

/-- ITS FALSE NEIGHBOUR: 'it returns false'. Refute it at one input. -/
def auditLeftWrong : ChangeSpec := { name := "auditLeft", fn := fun _ => fun
  | [d1, d2, d3] => { results := [.lit (.bool false)], args := [d1, d2, d3] }
  | _ => none }
def AuditLeftWrongFalsely : Prop := auditLeftRow.holds Try.pinned (OpenSpec.ofChange auditLeftWrong)

/-- 'cornhilllaw25.AuditBooks': WHATEVER THE INPUT: true; the input reads as it did. -/
def auditBooksSpec : ChangeSpec := { name := "auditBooks", fn := fun _ => fun
  | [d1, d2] => { results := [.lit (.bool true)], args := [d1, d2] }
  | _ => none }
def auditBooksRow : OpenClaim := { program := "ytphifgepggjcnaa", sum := "4ed3d378eb4b4500d28ccc919dd5ff769806197f6c1e9e171182f09dfb528f50", func := "cornhill/cornhilllaw25.AuditBooks", spec := "auditBooks", inPlace := ["slices.overlaps[cornhill/book.rung]", "maps.clone"], unfollowed := true, recurses := true, apart := false }
def AuditBooksSaid : Prop := auditBooksRow.holds Try.pinned (OpenSpec.ofChange auditBooksSpec)

/-- ITS FALSE NEIGHBOUR: 'it returns false'. Refute it at one input. -/
def auditBooksWrong : ChangeSpec := { name := "auditBooks", fn := fun _ => fun
  | [d1, d2] => { results := [.lit (.bool false)], args := [d1, d2] }
  | _ => none }
def AuditBooksWrongFalsely : Prop := auditBooksRow.holds Try.pinned (OpenSpec.ofChange auditBooksWrong)

/-- 'cornhilllaw25.AuditNumbers': WHATEVER THE INPUT: true; the input reads as it did. -/
def auditNumbersSpec : ChangeSpec := { name := "auditNumbers", fn := fun _ => fun
  | [] => { results := [.lit (.bool true)], args := [] }
  | _ => none }
def auditNumbersRow : OpenClaim := { program := "ytphifgepggjcnaa", sum := "4ed3d378eb4b4500d28ccc919dd5ff769806197f6c1e9e171182f09dfb528f50", func := "cornhill/cornhilllaw25.AuditNumbers", spec := "auditNumbers", inPlace := ["slices.overlaps[cornhill/book.rung]", "maps.clone"], unfollowed := true, recurses := true, apart := false }
def AuditNumbersSaid : Prop := auditNumbersRow.holds Try.pinned (OpenSpec.ofChange auditNumbersSpec)

/-- ITS FALSE NEIGHBOUR: 'it returns false'. Refute it at one input. -/
def auditNumbersWrong : ChangeSpec := { name := "auditNumbers", fn := fun _ => fun
  | [] => { results := [.lit (.bool false)], args := [] }
  | _ => none }
def AuditNumbersWrongFalsely : Prop := auditNumbersRow.holds Try.pinned (OpenSpec.ofChange auditNumbersWrong)

/- THE SECOND FORM. 'bulk': how many values and letters a reading holds, each counted each time it is reached (what is shared counts as often as it is met; a slice's spare places count too). A statement '..UptoSaid' is the law's where the arguments, and the package variables that the reading takes, are together of bulk at most 1048576: NARROWER than '..Said'. Prove '..Said' where nothing that the law and all that it calls make is longer than what came in: it says more and counts as full. Else prove '..UptoSaid'. A law counts once. -/
mutual
def uptoBulk {H : Type} : DataW H → Nat
  | .lit (.string bytes) => bytes.length + 1
  | .lit _ => 1
  | .nil => 1
  | .ptr d => uptoBulk d + 1
  | .slice elems spare => uptoBulkAll elems + uptoBulkAll spare + 1
  | .agg parts => uptoBulkAll parts + 1
  | .iface _ d => uptoBulk d + 1
  | .map entries => uptoBulkEntries entries + 1
  | .held _ => 1
def uptoBulkAll {H : Type} : List (DataW H) → Nat
  | [] => 0
  | d :: r => uptoBulk d + uptoBulkAll r
def uptoBulkEntries {H : Type} : List (Lit × DataW H) → Nat
  | [] => 0
  | x :: r => uptoBulkEntry x + uptoBulkEntries r
def uptoBulkEntry {H : Type} : Lit × DataW H → Nat
  | (.string bytes, d) => bytes.length + uptoBulk d + 1
  | (_, d) => uptoBulk d + 1
 end
def uptoSmall : (H : Type) → List (DataW H) → Bool := fun _ ds => decide (uptoBulkAll ds ≤ 1048576)
def OpenSpec.upto (s : _root_.Go.ChangeSpec) : _root_.Go.OpenSpec := { _root_.Go.OpenSpec.ofChange s with cond := some uptoSmall }

/-- 'cornhilllaw25.AuditLeft', WHERE WHAT IT READS IS OF BULK AT MOST 1048576: true; the input reads as it did. -/
def auditLeftUptoRow : OpenClaim := { program := "ytphifgepggjcnaa", sum := "4ed3d378eb4b4500d28ccc919dd5ff769806197f6c1e9e171182f09dfb528f50", func := "cornhill/cornhilllaw25.AuditLeft", spec := "auditLeft", inPlace := ["maps.clone"], unfollowed := true, recurses := true, apart := false, narrowed := true }
def AuditLeftUptoSaid : Prop := auditLeftUptoRow.holds Try.pinned (OpenSpec.upto auditLeftSpec)

/-- 'cornhilllaw25.AuditBooks', WHERE WHAT IT READS IS OF BULK AT MOST 1048576: true; the input reads as it did. -/
def auditBooksUptoRow : OpenClaim := { program := "ytphifgepggjcnaa", sum := "4ed3d378eb4b4500d28ccc919dd5ff769806197f6c1e9e171182f09dfb528f50", func := "cornhill/cornhilllaw25.AuditBooks", spec := "auditBooks", inPlace := ["slices.overlaps[cornhill/book.rung]", "maps.clone"], unfollowed := true, recurses := true, apart := false, narrowed := true }
def AuditBooksUptoSaid : Prop := auditBooksUptoRow.holds Try.pinned (OpenSpec.upto auditBooksSpec)

/-- 'cornhilllaw25.AuditNumbers', WHERE WHAT IT READS IS OF BULK AT MOST 1048576: true; the input reads as it did. -/
def auditNumbersUptoRow : OpenClaim := { program := "ytphifgepggjcnaa", sum := "4ed3d378eb4b4500d28ccc919dd5ff769806197f6c1e9e171182f09dfb528f50", func := "cornhill/cornhilllaw25.AuditNumbers", spec := "auditNumbers", inPlace := ["slices.overlaps[cornhill/book.rung]", "maps.clone"], unfollowed := true, recurses := true, apart := false, narrowed := true }
def AuditNumbersUptoSaid : Prop := auditNumbersUptoRow.holds Try.pinned (OpenSpec.upto auditNumbersSpec)

end Rows
end Go.Proofs.Ytphifgepggjcnaa
