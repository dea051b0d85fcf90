/-
  DERIVED. GIVEN WITH THE SEED: THE CARDS: each row of YtebgmicpecekgaaGreatDoorRows.lean that lists a variable, with what it lists TIED to the program's text (the seventh form; the later family's looks); each row that meets fmt, with fmt's text TOLD by the authors' own Lean function (tested against real Go, not proved from fmt's source: count such statements apart). THE CARD IS WHAT COUNTS. Prove the row's statement (the work); the ties are given (YtebgmicpecekgaaGreatDoorTie.lean); close each card by the builder's one call (the guide's Derived/Test/ToyasCard.lean, 'card_holds'). Laid BY PROGRAM, IN A SANDBOX (cutbox-door.mjs). By AI agents, Wed Nov 11 2026. No macro, syntax, notation, axiom, sorry.
-/
import Derived.Test.YtebgmicpecekgaaGreatDoorRows
import GoSem.ClaimSeven
namespace Go.Proofs.YtebgmicpecekgaaGreatDoor
namespace Rows

/-- THE TIED CARD OF 'numerallaw23.MarksPuts'. -/
def marksPutsCard : Claim7 := { stood := { row := marksPutsRow, standIns := [], harness := (true, "e5ef623d9b2ebdc71f7e17b025aaf126f89d6895ffeb7034b2deb882bc9737a0"), looks := true }, kinds := [], alts := [], laidByText := true, laidKinds := [.data, .handle, .pinned], laidTests := true, laidLooks := .later }
def MarksPutsCardSaid : Prop := Claim7.holds Tryz.pinned (.plain (OpenSpec.ofChange marksPutsSpec)) marksPutsCard

/-- THE TIED CARD OF 'numerallaw23.MarksTakes'. -/
def marksTakesCard : Claim7 := { stood := { row := marksTakesRow, standIns := [], harness := (true, "e5ef623d9b2ebdc71f7e17b025aaf126f89d6895ffeb7034b2deb882bc9737a0"), looks := true }, kinds := [], alts := [], laidByText := true, laidKinds := [.data, .handle, .pinned], laidTests := true, laidLooks := .later }
def MarksTakesCardSaid : Prop := Claim7.holds Tryz.pinned (.plain (OpenSpec.ofChange marksTakesSpec)) marksTakesCard

/-- THE SECOND FORM's CARD OF 'numerallaw23.MarksPuts'. -/
def marksPutsUptoCard : Claim7 := { stood := { row := marksPutsUptoRow, standIns := [], harness := (true, "e5ef623d9b2ebdc71f7e17b025aaf126f89d6895ffeb7034b2deb882bc9737a0"), looks := true }, kinds := [], alts := [], laidByText := true, laidKinds := [.data, .handle, .pinned], laidTests := true, laidLooks := .later }
def MarksPutsUptoCardSaid : Prop := Claim7.holds Tryz.pinned (.plain (OpenSpec.upto marksPutsSpec)) marksPutsUptoCard

/-- THE SECOND FORM's CARD OF 'numerallaw23.MarksTakes'. -/
def marksTakesUptoCard : Claim7 := { stood := { row := marksTakesUptoRow, standIns := [], harness := (true, "e5ef623d9b2ebdc71f7e17b025aaf126f89d6895ffeb7034b2deb882bc9737a0"), looks := true }, kinds := [], alts := [], laidByText := true, laidKinds := [.data, .handle, .pinned], laidTests := true, laidLooks := .later }
def MarksTakesUptoCardSaid : Prop := Claim7.holds Tryz.pinned (.plain (OpenSpec.upto marksTakesSpec)) marksTakesUptoCard
end Rows
end Go.Proofs.YtebgmicpecekgaaGreatDoor
