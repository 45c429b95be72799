/-
  DERIVED. GIVEN WITH THE SEED: THE CARDS: each row of YthlgpiinapiiaaaDoorRows.lean that lists a variable, with what it lists TIED to the program's text (the seventh form; the later family's looks); each row that meets fmt, with fmt's text TOLD by the authors' own Lean function (tested against real Go, not proved from fmt's source: count such statements apart). THE CARD IS WHAT COUNTS. Prove the row's statement (the work); the ties are given (YthlgpiinapiiaaaDoorTie.lean); close each card by the builder's one call (the guide's Derived/Test/ToyasCard.lean, 'card_holds'). Laid BY PROGRAM, IN A SANDBOX (cutbox-door.mjs). By AI agents, Wed Nov 11 2026. No macro, syntax, notation, axiom, sorry.
-/
import Derived.Test.YthlgpiinapiiaaaDoorRows
import GoSem.ClaimSeven
namespace Go.Proofs.YthlgpiinapiiaaaDoor
namespace Rows

/-- THE TIED CARD OF 'cornhilllaw27.ConsoleWords'. -/
def consoleWordsCard : Claim7 := { stood := { row := consoleWordsRow, standIns := [], harness := (true, "03bba8a88d67570d5b962ed2d61d42b7dc2ecd53714453911fd7b961f824fbea"), looks := true }, kinds := [], alts := [], laidByText := true, laidKinds := [.data, .pinned], laidTests := true, laidLooks := .later }
def ConsoleWordsCardSaid : Prop := Claim7.holds Tryd.pinned (.plain (OpenSpec.ofChange consoleWordsSpec)) consoleWordsCard

/-- THE TIED CARD OF 'cornhilllaw27.ConsoleDigits'. -/
def consoleDigitsCard : Claim7 := { stood := { row := consoleDigitsRow, standIns := [], harness := (true, "03bba8a88d67570d5b962ed2d61d42b7dc2ecd53714453911fd7b961f824fbea"), looks := true }, kinds := [], alts := [], laidByText := true, laidKinds := [.data, .pinned], laidTests := true, laidLooks := .later }
def ConsoleDigitsCardSaid : Prop := Claim7.holds Tryd.pinned (.plain (OpenSpec.ofChange consoleDigitsSpec)) consoleDigitsCard

/-- THE TIED CARD OF 'cornhilllaw27.ConsoleBack'. -/
def consoleBackCard : Claim7 := { stood := { row := consoleBackRow, standIns := [], harness := (true, "03bba8a88d67570d5b962ed2d61d42b7dc2ecd53714453911fd7b961f824fbea"), looks := true }, kinds := [], alts := [], laidByText := true, laidKinds := [.data, .data, .data, .data, .pinned], laidTests := true, laidLooks := .later }
def ConsoleBackCardSaid : Prop := Claim7.holds Tryd.pinned (.plain (OpenSpec.ofChange consoleBackSpec)) consoleBackCard

/-- THE TIED CARD OF 'cornhilllaw27.ConsoleOrder'. -/
def consoleOrderCard : Claim7 := { stood := { row := consoleOrderRow, standIns := [], harness := (true, "03bba8a88d67570d5b962ed2d61d42b7dc2ecd53714453911fd7b961f824fbea"), looks := true }, kinds := [], alts := [], laidByText := true, laidKinds := [.data, .data, .data, .data, .pinned], laidTests := true, laidLooks := .later }
def ConsoleOrderCardSaid : Prop := Claim7.holds Tryd.pinned (.plain (OpenSpec.ofChange consoleOrderSpec)) consoleOrderCard

/-- THE SECOND FORM's CARD OF 'cornhilllaw27.ConsoleWords'. -/
def consoleWordsUptoCard : Claim7 := { stood := { row := consoleWordsUptoRow, standIns := [], harness := (true, "03bba8a88d67570d5b962ed2d61d42b7dc2ecd53714453911fd7b961f824fbea"), looks := true }, kinds := [], alts := [], laidByText := true, laidKinds := [.data, .pinned], laidTests := true, laidLooks := .later }
def ConsoleWordsUptoCardSaid : Prop := Claim7.holds Tryd.pinned (.plain (OpenSpec.upto consoleWordsSpec)) consoleWordsUptoCard

/-- THE SECOND FORM's CARD OF 'cornhilllaw27.ConsoleDigits'. -/
def consoleDigitsUptoCard : Claim7 := { stood := { row := consoleDigitsUptoRow, standIns := [], harness := (true, "03bba8a88d67570d5b962ed2d61d42b7dc2ecd53714453911fd7b961f824fbea"), looks := true }, kinds := [], alts := [], laidByText := true, laidKinds := [.data, .pinned], laidTests := true, laidLooks := .later }
def ConsoleDigitsUptoCardSaid : Prop := Claim7.holds Tryd.pinned (.plain (OpenSpec.upto consoleDigitsSpec)) consoleDigitsUptoCard

/-- THE SECOND FORM's CARD OF 'cornhilllaw27.ConsoleBack'. -/
def consoleBackUptoCard : Claim7 := { stood := { row := consoleBackUptoRow, standIns := [], harness := (true, "03bba8a88d67570d5b962ed2d61d42b7dc2ecd53714453911fd7b961f824fbea"), looks := true }, kinds := [], alts := [], laidByText := true, laidKinds := [.data, .data, .data, .data, .pinned], laidTests := true, laidLooks := .later }
def ConsoleBackUptoCardSaid : Prop := Claim7.holds Tryd.pinned (.plain (OpenSpec.upto consoleBackSpec)) consoleBackUptoCard

/-- THE SECOND FORM's CARD OF 'cornhilllaw27.ConsoleOrder'. -/
def consoleOrderUptoCard : Claim7 := { stood := { row := consoleOrderUptoRow, standIns := [], harness := (true, "03bba8a88d67570d5b962ed2d61d42b7dc2ecd53714453911fd7b961f824fbea"), looks := true }, kinds := [], alts := [], laidByText := true, laidKinds := [.data, .data, .data, .data, .pinned], laidTests := true, laidLooks := .later }
def ConsoleOrderUptoCardSaid : Prop := Claim7.holds Tryd.pinned (.plain (OpenSpec.upto consoleOrderSpec)) consoleOrderUptoCard
end Rows
end Go.Proofs.YthlgpiinapiiaaaDoor
