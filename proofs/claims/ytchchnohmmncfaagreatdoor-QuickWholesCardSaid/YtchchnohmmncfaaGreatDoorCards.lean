/-
  DERIVED. GIVEN WITH THE SEED: THE CARDS: each row of YtchchnohmmncfaaGreatDoorRows.lean that lists a variable, with what it lists TIED to the program's text (the seventh form; the later family's looks); each row that meets fmt, with fmt's text TOLD by the authors' own Lean function (tested against real Go, not proved from fmt's source: count such statements apart). THE CARD IS WHAT COUNTS. Prove the row's statement (the work); the ties are given (YtchchnohmmncfaaGreatDoorTie.lean); close each card by the builder's one call (the guide's Derived/Test/ToyasCard.lean, 'card_holds'). Laid BY PROGRAM, IN A SANDBOX (cutbox-door.mjs). By AI agents, Wed Nov 11 2026. No macro, syntax, notation, axiom, sorry.
-/
import Derived.Test.YtchchnohmmncfaaGreatDoorRows
import GoSem.ClaimSeven
namespace Go.Proofs.YtchchnohmmncfaaGreatDoor
namespace Rows

/-- THE TIED CARD OF 'numerallaw14.QuickWholes'. -/
def quickWholesCard : Claim7 := { stood := { row := quickWholesRow, standIns := [], harness := (true, "07ab986f65bee5bab6e16da6d7d439013b1190fe527cbc281e7958e602ab3538"), looks := true }, kinds := [], alts := [], laidByText := true, laidKinds := [.data, .data, .data, .sentinel, .sentinel], laidTests := true, laidLooks := .later }
def QuickWholesCardSaid : Prop := Claim7.holds Tryz.pinned (.plain (OpenSpec.ofChange quickWholesSpec)) quickWholesCard

/-- THE TIED CARD OF 'numerallaw14.QuickDecimals'. -/
def quickDecimalsCard : Claim7 := { stood := { row := quickDecimalsRow, standIns := [], harness := (true, "07ab986f65bee5bab6e16da6d7d439013b1190fe527cbc281e7958e602ab3538"), looks := true }, kinds := [], alts := [], laidByText := true, laidKinds := [.data, .data, .data, .sentinel, .sentinel], laidTests := true, laidLooks := .later }
def QuickDecimalsCardSaid : Prop := Claim7.holds Tryz.pinned (.plain (OpenSpec.ofChange quickDecimalsSpec)) quickDecimalsCard

/-- THE SECOND FORM's CARD OF 'numerallaw14.QuickWholes'. -/
def quickWholesUptoCard : Claim7 := { stood := { row := quickWholesUptoRow, standIns := [], harness := (true, "07ab986f65bee5bab6e16da6d7d439013b1190fe527cbc281e7958e602ab3538"), looks := true }, kinds := [], alts := [], laidByText := true, laidKinds := [.data, .data, .data, .sentinel, .sentinel], laidTests := true, laidLooks := .later }
def QuickWholesUptoCardSaid : Prop := Claim7.holds Tryz.pinned (.plain (OpenSpec.upto quickWholesSpec)) quickWholesUptoCard

/-- THE SECOND FORM's CARD OF 'numerallaw14.QuickDecimals'. -/
def quickDecimalsUptoCard : Claim7 := { stood := { row := quickDecimalsUptoRow, standIns := [], harness := (true, "07ab986f65bee5bab6e16da6d7d439013b1190fe527cbc281e7958e602ab3538"), looks := true }, kinds := [], alts := [], laidByText := true, laidKinds := [.data, .data, .data, .sentinel, .sentinel], laidTests := true, laidLooks := .later }
def QuickDecimalsUptoCardSaid : Prop := Claim7.holds Tryz.pinned (.plain (OpenSpec.upto quickDecimalsSpec)) quickDecimalsUptoCard
end Rows
end Go.Proofs.YtchchnohmmncfaaGreatDoor
