/-
  DERIVED. GIVEN WITH THE SEED: THE CARDS: each row of YtgedpfbokkambaaGreatDoorRows.lean that lists a variable, with what it lists TIED to the program's text (the seventh form; the later family's looks); each row that meets fmt, with fmt's text TOLD by the authors' own Lean function (tested against real Go, not proved from fmt's source: count such statements apart). THE CARD IS WHAT COUNTS. Prove the row's statement (the work); the ties are given (YtgedpfbokkambaaGreatDoorTie.lean); close each card by the builder's one call (the guide's Derived/Test/ToyasCard.lean, 'card_holds'). Laid BY PROGRAM, IN A SANDBOX (cutbox-door.mjs). By AI agents, Wed Nov 11 2026. No macro, syntax, notation, axiom, sorry.
-/
import Derived.Test.YtgedpfbokkambaaGreatDoorRows
import GoSem.ClaimSeven
namespace Go.Proofs.YtgedpfbokkambaaGreatDoor
namespace Rows

/-- THE TIED CARD OF 'numerallaw23.MarksTakes'. -/
def marksTakesCard : Claim7 := { stood := { row := marksTakesRow, standIns := [], harness := (true, "85474572ddcb7706e096457bf3ea9f517d94a002c2c20b689d536a59aae57687"), looks := true }, kinds := [], alts := [], laidByText := true, laidKinds := [.data, .handle, .pinned], laidTests := true, laidLooks := .later }
def MarksTakesCardSaid : Prop := Claim7.holds Tryz.pinned (.plain (OpenSpec.ofChange marksTakesSpec)) marksTakesCard

/-- THE TIED CARD OF 'numerallaw23.MarksWidths'. -/
def marksWidthsCard : Claim7 := { stood := { row := marksWidthsRow, standIns := [], harness := (true, "85474572ddcb7706e096457bf3ea9f517d94a002c2c20b689d536a59aae57687"), looks := true }, kinds := [], alts := [], laidByText := true, laidKinds := [.data, .handle, .pinned], laidTests := true, laidLooks := .later }
def MarksWidthsCardSaid : Prop := Claim7.holds Tryz.pinned (.plain (OpenSpec.ofChange marksWidthsSpec)) marksWidthsCard

/-- THE TIED CARD OF 'numerallaw23.MarksNames'. -/
def marksNamesCard : Claim7 := { stood := { row := marksNamesRow, standIns := [], harness := (true, "85474572ddcb7706e096457bf3ea9f517d94a002c2c20b689d536a59aae57687"), looks := true }, kinds := [], alts := [], laidByText := true, laidKinds := [.data, .handle, .pinned], laidTests := true, laidLooks := .later }
def MarksNamesCardSaid : Prop := Claim7.holds Tryz.pinned (.plain (OpenSpec.ofChange marksNamesSpec)) marksNamesCard

/-- THE SECOND FORM's CARD OF 'numerallaw23.MarksTakes'. -/
def marksTakesUptoCard : Claim7 := { stood := { row := marksTakesUptoRow, standIns := [], harness := (true, "85474572ddcb7706e096457bf3ea9f517d94a002c2c20b689d536a59aae57687"), looks := true }, kinds := [], alts := [], laidByText := true, laidKinds := [.data, .handle, .pinned], laidTests := true, laidLooks := .later }
def MarksTakesUptoCardSaid : Prop := Claim7.holds Tryz.pinned (.plain (OpenSpec.upto marksTakesSpec)) marksTakesUptoCard

/-- THE SECOND FORM's CARD OF 'numerallaw23.MarksWidths'. -/
def marksWidthsUptoCard : Claim7 := { stood := { row := marksWidthsUptoRow, standIns := [], harness := (true, "85474572ddcb7706e096457bf3ea9f517d94a002c2c20b689d536a59aae57687"), looks := true }, kinds := [], alts := [], laidByText := true, laidKinds := [.data, .handle, .pinned], laidTests := true, laidLooks := .later }
def MarksWidthsUptoCardSaid : Prop := Claim7.holds Tryz.pinned (.plain (OpenSpec.upto marksWidthsSpec)) marksWidthsUptoCard

/-- THE SECOND FORM's CARD OF 'numerallaw23.MarksNames'. -/
def marksNamesUptoCard : Claim7 := { stood := { row := marksNamesUptoRow, standIns := [], harness := (true, "85474572ddcb7706e096457bf3ea9f517d94a002c2c20b689d536a59aae57687"), looks := true }, kinds := [], alts := [], laidByText := true, laidKinds := [.data, .handle, .pinned], laidTests := true, laidLooks := .later }
def MarksNamesUptoCardSaid : Prop := Claim7.holds Tryz.pinned (.plain (OpenSpec.upto marksNamesSpec)) marksNamesUptoCard
end Rows
end Go.Proofs.YtgedpfbokkambaaGreatDoor
