/-
  No cell of these rows narrows 'for every input' (looked for: loops, veiled, ifaces, maps, wideKeys, modest, calm, conditions, laid).
  DERIVED. THE GIVEN ROWS OF THIS SEAT. 7 by the template 'for every input the law returns true; each argument reads behind the call as it read before'; 0 by the template 'total and deterministic' (their statements: YtpgpnnncaidcjaaGreatTotals.lean).
  GIVEN WITH THE SEED: the statements are not yours to turn. If you find one false, say at which input.
  Laid BY PROGRAM, IN A SANDBOX (cutbox-rows.mjs): the forced cells as the released guide's own fill.sh prints them over the translation e3b42eabb124f959… (all of the seat's roots in one cut). By AI agents, Wed Nov 11 2026. No macro, syntax, notation, axiom, sorry.
-/
import Derived.Test.YtpgpnnncaidcjaaGreatChecked
import GoSem.Claim
import GoSem.ClaimJoined
import GoSem.ClaimMapViews
import Derived.JoinedTies
import Derived.KernelRfl
namespace Go.Proofs.YtpgpnnncaidcjaaGreat
/- THE CELL 'sum', in the pinned program and in every row, IS THE sha256 OF THE DUMP (.gsa) THAT YtpgpnnncaidcjaaGreatProg.lean LOADS. Nothing in Lean hashes anything: it is a label: what it is worth is what the hold of that sum in a sandbox is worth. -/
noncomputable def Tryz.pinned : Pinned := { name := "ytpgpnnncaidcjaagreat", sum := "e3b42eabb124f95962b03eb09b9395a20e656cef4f22a7f3363214889e1cfd47", checked := Tryz.checked }
namespace Rows
def none {H : Type} : Left H := { results := [], args := [] }

/-- 'cornhilllaw17.MarketPlaces': WHATEVER THE INPUT: true; the input reads as it did. -/
def marketPlacesSpec : ChangeSpec := { name := "marketPlaces", fn := fun _ => fun
  | [d1, d2, d3, d4] => { results := [.lit (.bool true)], args := [d1, d2, d3, d4] }
  | _ => none }
def marketPlacesRow : OpenClaim := { program := "ytpgpnnncaidcjaagreat", sum := "e3b42eabb124f95962b03eb09b9395a20e656cef4f22a7f3363214889e1cfd47", func := "cornhill/cornhilllaw17.MarketPlaces", spec := "marketPlaces", inPlace := ["maps.clone", "math/bits.Add64", "slices.overlaps[cornhill/book.rung]"], unfollowed := true, recurses := true, named := ["math/bits.divideError", "math/bits.overflowError"], apart := false }
def MarketPlacesSaid : Prop := marketPlacesRow.holds Tryz.pinned (OpenSpec.ofChange marketPlacesSpec)

/-- ITS FALSE NEIGHBOUR: 'it returns false'. Refute it at one input. -/
def marketPlacesWrong : ChangeSpec := { name := "marketPlaces", fn := fun _ => fun
  | [d1, d2, d3, d4] => { results := [.lit (.bool false)], args := [d1, d2, d3, d4] }
  | _ => none }
def MarketPlacesWrongFalsely : Prop := marketPlacesRow.holds Tryz.pinned (OpenSpec.ofChange marketPlacesWrong)

/-- 'cornhilllaw17.MarketUncrossed': WHATEVER THE INPUT: true; the input reads as it did. -/
def marketUncrossedSpec : ChangeSpec := { name := "marketUncrossed", fn := fun _ => fun
  | [d1, d2] => { results := [.lit (.bool true)], args := [d1, d2] }
  | _ => none }
def marketUncrossedRow : OpenClaim := { program := "ytpgpnnncaidcjaagreat", sum := "e3b42eabb124f95962b03eb09b9395a20e656cef4f22a7f3363214889e1cfd47", func := "cornhill/cornhilllaw17.MarketUncrossed", spec := "marketUncrossed", inPlace := ["maps.clone", "math/bits.Add64", "slices.overlaps[cornhill/book.rung]"], unfollowed := true, recurses := true, named := ["math/bits.divideError", "math/bits.overflowError"], apart := false }
def MarketUncrossedSaid : Prop := marketUncrossedRow.holds Tryz.pinned (OpenSpec.ofChange marketUncrossedSpec)

/-- ITS FALSE NEIGHBOUR: 'it returns false'. Refute it at one input. -/
def marketUncrossedWrong : ChangeSpec := { name := "marketUncrossed", fn := fun _ => fun
  | [d1, d2] => { results := [.lit (.bool false)], args := [d1, d2] }
  | _ => none }
def MarketUncrossedWrongFalsely : Prop := marketUncrossedRow.holds Tryz.pinned (OpenSpec.ofChange marketUncrossedWrong)

/-- 'cornhilllaw17.MarketKept': WHATEVER THE INPUT: true; the input reads as it did. -/
def marketKeptSpec : ChangeSpec := { name := "marketKept", fn := fun _ => fun
  | [d1, d2] => { results := [.lit (.bool true)], args := [d1, d2] }
  | _ => none }
def marketKeptRow : OpenClaim := { program := "ytpgpnnncaidcjaagreat", sum := "e3b42eabb124f95962b03eb09b9395a20e656cef4f22a7f3363214889e1cfd47", func := "cornhill/cornhilllaw17.MarketKept", spec := "marketKept", inPlace := ["maps.clone", "math/bits.Add64", "slices.overlaps[cornhill/book.rung]"], unfollowed := true, recurses := true, named := ["math/bits.divideError", "math/bits.overflowError"], apart := false }
def MarketKeptSaid : Prop := marketKeptRow.holds Tryz.pinned (OpenSpec.ofChange marketKeptSpec)

/-- ITS FALSE NEIGHBOUR: 'it returns false'. Refute it at one input. -/
def marketKeptWrong : ChangeSpec := { name := "marketKept", fn := fun _ => fun
  | [d1, d2] => { results := [.lit (.bool false)], args := [d1, d2] }
  | _ => none }
def MarketKeptWrongFalsely : Prop := marketKeptRow.holds Tryz.pinned (OpenSpec.ofChange marketKeptWrong)

/-- 'cornhilllaw17.MarketUsed': WHATEVER THE INPUT: true; the input reads as it did. -/
def marketUsedSpec : ChangeSpec := { name := "marketUsed", fn := fun _ => fun
  | [d1, d2] => { results := [.lit (.bool true)], args := [d1, d2] }
  | _ => none }
def marketUsedRow : OpenClaim := { program := "ytpgpnnncaidcjaagreat", sum := "e3b42eabb124f95962b03eb09b9395a20e656cef4f22a7f3363214889e1cfd47", func := "cornhill/cornhilllaw17.MarketUsed", spec := "marketUsed", inPlace := ["maps.clone", "math/bits.Add64", "slices.overlaps[cornhill/book.rung]"], unfollowed := true, recurses := true, named := ["math/bits.divideError", "math/bits.overflowError"], apart := false }
def MarketUsedSaid : Prop := marketUsedRow.holds Tryz.pinned (OpenSpec.ofChange marketUsedSpec)

/-- ITS FALSE NEIGHBOUR: 'it returns false'. Refute it at one input. -/
def marketUsedWrong : ChangeSpec := { name := "marketUsed", fn := fun _ => fun
  | [d1, d2] => { results := [.lit (.bool false)], args := [d1, d2] }
  | _ => none }
def MarketUsedWrongFalsely : Prop := marketUsedRow.holds Tryz.pinned (OpenSpec.ofChange marketUsedWrong)

/-- 'cornhilllaw17.MarketRefused': WHATEVER THE INPUT: true; the input reads as it did. -/
def marketRefusedSpec : ChangeSpec := { name := "marketRefused", fn := fun _ => fun
  | [d1, d2, d3] => { results := [.lit (.bool true)], args := [d1, d2, d3] }
  | _ => none }
def marketRefusedRow : OpenClaim := { program := "ytpgpnnncaidcjaagreat", sum := "e3b42eabb124f95962b03eb09b9395a20e656cef4f22a7f3363214889e1cfd47", func := "cornhill/cornhilllaw17.MarketRefused", spec := "marketRefused", inPlace := ["maps.clone", "math/bits.Add64", "slices.overlaps[cornhill/book.rung]"], unfollowed := true, recurses := true, named := ["math/bits.divideError", "math/bits.overflowError"], apart := false }
def MarketRefusedSaid : Prop := marketRefusedRow.holds Tryz.pinned (OpenSpec.ofChange marketRefusedSpec)

/-- ITS FALSE NEIGHBOUR: 'it returns false'. Refute it at one input. -/
def marketRefusedWrong : ChangeSpec := { name := "marketRefused", fn := fun _ => fun
  | [d1, d2, d3] => { results := [.lit (.bool false)], args := [d1, d2, d3] }
  | _ => none }
def MarketRefusedWrongFalsely : Prop := marketRefusedRow.holds Tryz.pinned (OpenSpec.ofChange marketRefusedWrong)

/-- 'cornhilllaw25.AuditTurned': WHATEVER THE INPUT: true; the input reads as it did. -/
def auditTurnedSpec : ChangeSpec := { name := "auditTurned", fn := fun _ => fun
  | [d1, d2, d3, d4] => { results := [.lit (.bool true)], args := [d1, d2, d3, d4] }
  | _ => none }
def auditTurnedRow : OpenClaim := { program := "ytpgpnnncaidcjaagreat", sum := "e3b42eabb124f95962b03eb09b9395a20e656cef4f22a7f3363214889e1cfd47", func := "cornhill/cornhilllaw25.AuditTurned", spec := "auditTurned", inPlace := ["maps.clone", "math/bits.Add64", "slices.overlaps[cornhill/book.rung]"], unfollowed := true, recurses := true, named := ["math/bits.divideError", "math/bits.overflowError"], apart := false }
def AuditTurnedSaid : Prop := auditTurnedRow.holds Tryz.pinned (OpenSpec.ofChange auditTurnedSpec)

/-- ITS FALSE NEIGHBOUR: 'it returns false'. Refute it at one input. -/
def auditTurnedWrong : ChangeSpec := { name := "auditTurned", fn := fun _ => fun
  | [d1, d2, d3, d4] => { results := [.lit (.bool false)], args := [d1, d2, d3, d4] }
  | _ => none }
def AuditTurnedWrongFalsely : Prop := auditTurnedRow.holds Tryz.pinned (OpenSpec.ofChange auditTurnedWrong)

/-- 'cornhilllaw25.AuditMarket': WHATEVER THE INPUT: true; the input reads as it did. -/
def auditMarketSpec : ChangeSpec := { name := "auditMarket", fn := fun _ => fun
  | [d1, d2] => { results := [.lit (.bool true)], args := [d1, d2] }
  | _ => none }
def auditMarketRow : OpenClaim := { program := "ytpgpnnncaidcjaagreat", sum := "e3b42eabb124f95962b03eb09b9395a20e656cef4f22a7f3363214889e1cfd47", func := "cornhill/cornhilllaw25.AuditMarket", spec := "auditMarket", inPlace := ["maps.clone", "math/bits.Add64", "slices.overlaps[cornhill/book.rung]"], unfollowed := true, recurses := true, named := ["math/bits.divideError", "math/bits.overflowError"], apart := false }
def AuditMarketSaid : Prop := auditMarketRow.holds Tryz.pinned (OpenSpec.ofChange auditMarketSpec)

/-- ITS FALSE NEIGHBOUR: 'it returns false'. Refute it at one input. -/
def auditMarketWrong : ChangeSpec := { name := "auditMarket", fn := fun _ => fun
  | [d1, d2] => { results := [.lit (.bool false)], args := [d1, d2] }
  | _ => none }
def AuditMarketWrongFalsely : Prop := auditMarketRow.holds Tryz.pinned (OpenSpec.ofChange auditMarketWrong)

/- THE SECOND FORM. 'bulk': how many values and letters a reading holds, each counted each time it is reached (what is shared counts as often as it is met; a slice's spare places count too). A statement '..UptoSaid' is the law's where the arguments, and the package variables that the reading takes, are together of bulk at most 1048576: NARROWER than '..Said'. Prove '..Said' where nothing that the law and all that it calls make is longer than what came in: it says more and counts as full. Else prove '..UptoSaid'. A law counts once. -/
mutual
def uptoBulk {H : Type} : DataW H → Nat
  | .lit (.string bytes) => bytes.length + 1
  | .lit _ => 1
  | .nil => 1
  | .ptr d => uptoBulk d + 1
  | .slice elems spare => uptoBulkAll elems + uptoBulkAll spare + 1
  | .agg parts => uptoBulkAll parts + 1
  | .iface _ d => uptoBulk d + 1
  | .map entries => uptoBulkEntries entries + 1
  | .held _ => 1
def uptoBulkAll {H : Type} : List (DataW H) → Nat
  | [] => 0
  | d :: r => uptoBulk d + uptoBulkAll r
def uptoBulkEntries {H : Type} : List (Lit × DataW H) → Nat
  | [] => 0
  | x :: r => uptoBulkEntry x + uptoBulkEntries r
def uptoBulkEntry {H : Type} : Lit × DataW H → Nat
  | (.string bytes, d) => bytes.length + uptoBulk d + 1
  | (_, d) => uptoBulk d + 1
 end
def uptoSmall : (H : Type) → List (DataW H) → Bool := fun _ ds => decide (uptoBulkAll ds ≤ 1048576)
def OpenSpec.upto (s : _root_.Go.ChangeSpec) : _root_.Go.OpenSpec := { _root_.Go.OpenSpec.ofChange s with cond := some uptoSmall }

/-- 'cornhilllaw17.MarketPlaces', WHERE WHAT IT READS IS OF BULK AT MOST 1048576: true; the input reads as it did. -/
def marketPlacesUptoRow : OpenClaim := { program := "ytpgpnnncaidcjaagreat", sum := "e3b42eabb124f95962b03eb09b9395a20e656cef4f22a7f3363214889e1cfd47", func := "cornhill/cornhilllaw17.MarketPlaces", spec := "marketPlaces", inPlace := ["maps.clone", "math/bits.Add64", "slices.overlaps[cornhill/book.rung]"], unfollowed := true, recurses := true, named := ["math/bits.divideError", "math/bits.overflowError"], apart := false, narrowed := true }
def MarketPlacesUptoSaid : Prop := marketPlacesUptoRow.holds Tryz.pinned (OpenSpec.upto marketPlacesSpec)

/-- 'cornhilllaw17.MarketUncrossed', WHERE WHAT IT READS IS OF BULK AT MOST 1048576: true; the input reads as it did. -/
def marketUncrossedUptoRow : OpenClaim := { program := "ytpgpnnncaidcjaagreat", sum := "e3b42eabb124f95962b03eb09b9395a20e656cef4f22a7f3363214889e1cfd47", func := "cornhill/cornhilllaw17.MarketUncrossed", spec := "marketUncrossed", inPlace := ["maps.clone", "math/bits.Add64", "slices.overlaps[cornhill/book.rung]"], unfollowed := true, recurses := true, named := ["math/bits.divideError", "math/bits.overflowError"], apart := false, narrowed := true }
def MarketUncrossedUptoSaid : Prop := marketUncrossedUptoRow.holds Tryz.pinned (OpenSpec.upto marketUncrossedSpec)

/-- 'cornhilllaw17.MarketKept', WHERE WHAT IT READS IS OF BULK AT MOST 1048576: true; the input reads as it did. -/
def marketKeptUptoRow : OpenClaim := { program := "ytpgpnnncaidcjaagreat", sum := "e3b42eabb124f95962b03eb09b9395a20e656cef4f22a7f3363214889e1cfd47", func := "cornhill/cornhilllaw17.MarketKept", spec := "marketKept", inPlace := ["maps.clone", "math/bits.Add64", "slices.overlaps[cornhill/book.rung]"], unfollowed := true, recurses := true, named := ["math/bits.divideError", "math/bits.overflowError"], apart := false, narrowed := true }
def MarketKeptUptoSaid : Prop := marketKeptUptoRow.holds Tryz.pinned (OpenSpec.upto marketKeptSpec)

/-- 'cornhilllaw17.MarketUsed', WHERE WHAT IT READS IS OF BULK AT MOST 1048576: true; the input reads as it did. -/
def marketUsedUptoRow : OpenClaim := { program := "ytpgpnnncaidcjaagreat", sum := "e3b42eabb124f95962b03eb09b9395a20e656cef4f22a7f3363214889e1cfd47", func := "cornhill/cornhilllaw17.MarketUsed", spec := "marketUsed", inPlace := ["maps.clone", "math/bits.Add64", "slices.overlaps[cornhill/book.rung]"], unfollowed := true, recurses := true, named := ["math/bits.divideError", "math/bits.overflowError"], apart := false, narrowed := true }
def MarketUsedUptoSaid : Prop := marketUsedUptoRow.holds Tryz.pinned (OpenSpec.upto marketUsedSpec)

/-- 'cornhilllaw17.MarketRefused', WHERE WHAT IT READS IS OF BULK AT MOST 1048576: true; the input reads as it did. -/
def marketRefusedUptoRow : OpenClaim := { program := "ytpgpnnncaidcjaagreat", sum := "e3b42eabb124f95962b03eb09b9395a20e656cef4f22a7f3363214889e1cfd47", func := "cornhill/cornhilllaw17.MarketRefused", spec := "marketRefused", inPlace := ["maps.clone", "math/bits.Add64", "slices.overlaps[cornhill/book.rung]"], unfollowed := true, recurses := true, named := ["math/bits.divideError", "math/bits.overflowError"], apart := false, narrowed := true }
def MarketRefusedUptoSaid : Prop := marketRefusedUptoRow.holds Tryz.pinned (OpenSpec.upto marketRefusedSpec)

/-- 'cornhilllaw25.AuditTurned', WHERE WHAT IT READS IS OF BULK AT MOST 1048576: true; the input reads as it did. -/
def auditTurnedUptoRow : OpenClaim := { program := "ytpgpnnncaidcjaagreat", sum := "e3b42eabb124f95962b03eb09b9395a20e656cef4f22a7f3363214889e1cfd47", func := "cornhill/cornhilllaw25.AuditTurned", spec := "auditTurned", inPlace := ["maps.clone", "math/bits.Add64", "slices.overlaps[cornhill/book.rung]"], unfollowed := true, recurses := true, named := ["math/bits.divideError", "math/bits.overflowError"], apart := false, narrowed := true }
def AuditTurnedUptoSaid : Prop := auditTurnedUptoRow.holds Tryz.pinned (OpenSpec.upto auditTurnedSpec)

/-- 'cornhilllaw25.AuditMarket', WHERE WHAT IT READS IS OF BULK AT MOST 1048576: true; the input reads as it did. -/
def auditMarketUptoRow : OpenClaim := { program := "ytpgpnnncaidcjaagreat", sum := "e3b42eabb124f95962b03eb09b9395a20e656cef4f22a7f3363214889e1cfd47", func := "cornhill/cornhilllaw25.AuditMarket", spec := "auditMarket", inPlace := ["maps.clone", "math/bits.Add64", "slices.overlaps[cornhill/book.rung]"], unfollowed := true, recurses := true, named := ["math/bits.divideError", "math/bits.overflowError"], apart := false, narrowed := true }
def AuditMarketUptoSaid : Prop := auditMarketUptoRow.holds Tryz.pinned (OpenSpec.upto auditMarketSpec)

end Rows
end Go.Proofs.YtpgpnnncaidcjaaGreat
