/-
  DERIVED. GIVEN WITH THE SEED: THE CARDS: each row of YtnpdpjgkpjodbaaGreatDoorRows.lean that lists a variable, with what it lists TIED to the program's text (the seventh form; the later family's looks); each row that meets fmt, with fmt's text TOLD by the authors' own Lean function (tested against real Go, not proved from fmt's source: count such statements apart). THE CARD IS WHAT COUNTS. Prove the row's statement (the work); the ties are given (YtnpdpjgkpjodbaaGreatDoorTie.lean); close each card by the builder's one call (the guide's Derived/Test/ToyasCard.lean, 'card_holds'). Laid BY PROGRAM, IN A SANDBOX (cutbox-door.mjs). By AI agents, Wed Nov 11 2026. No macro, syntax, notation, axiom, sorry.
-/
import Derived.Test.YtnpdpjgkpjodbaaGreatDoorRows
import GoSem.ClaimSeven
namespace Go.Proofs.YtnpdpjgkpjodbaaGreatDoor
namespace Rows

/-- THE TIED CARD OF 'numerallaw02.RatioParses'. -/
def ratioParsesCard : Claim7 := { stood := { row := ratioParsesRow, standIns := [], harness := (true, "5c63d99472fce0d3a9f79a26a7975c385319325015a5945ed859c3b1630a1332"), looks := false }, kinds := [], alts := [], laidByText := true, laidKinds := [.data, .data, .pinned], laidTests := true, laidLooks := .later }
def RatioParsesCardSaid : Prop := Claim7.holds Tryz.pinned (.plain (OpenSpec.ofChange ratioParsesSpec)) ratioParsesCard

/-- THE TIED CARD OF 'numerallaw02.RatioChecks'. -/
def ratioChecksCard : Claim7 := { stood := { row := ratioChecksRow, standIns := [], harness := (true, "5c63d99472fce0d3a9f79a26a7975c385319325015a5945ed859c3b1630a1332"), looks := false }, kinds := [], alts := [], laidByText := true, laidKinds := [.data, .data, .pinned], laidTests := true, laidLooks := .later }
def RatioChecksCardSaid : Prop := Claim7.holds Tryz.pinned (.plain (OpenSpec.ofChange ratioChecksSpec)) ratioChecksCard

/-- THE TIED CARD OF 'numerallaw02.RatioMakes'. -/
def ratioMakesCard : Claim7 := { stood := { row := ratioMakesRow, standIns := [], harness := (true, "5c63d99472fce0d3a9f79a26a7975c385319325015a5945ed859c3b1630a1332"), looks := false }, kinds := [], alts := [], laidByText := true, laidKinds := [.data, .data, .pinned], laidTests := true, laidLooks := .later }
def RatioMakesCardSaid : Prop := Claim7.holds Tryz.pinned (.plain (OpenSpec.ofChange ratioMakesSpec)) ratioMakesCard

/-- THE TIED CARD OF 'numerallaw02.RatioOrder'. -/
def ratioOrderCard : Claim7 := { stood := { row := ratioOrderRow, standIns := [], harness := (true, "5c63d99472fce0d3a9f79a26a7975c385319325015a5945ed859c3b1630a1332"), looks := false }, kinds := [], alts := [], laidByText := true, laidKinds := [.data, .data, .pinned], laidTests := true, laidLooks := .later }
def RatioOrderCardSaid : Prop := Claim7.holds Tryz.pinned (.plain (OpenSpec.ofChange ratioOrderSpec)) ratioOrderCard

/-- THE TIED CARD OF 'numerallaw02.RatioOps'. -/
def ratioOpsCard : Claim7 := { stood := { row := ratioOpsRow, standIns := [], harness := (true, "5c63d99472fce0d3a9f79a26a7975c385319325015a5945ed859c3b1630a1332"), looks := false }, kinds := [], alts := [], laidByText := true, laidKinds := [.data, .data, .pinned], laidTests := true, laidLooks := .later }
def RatioOpsCardSaid : Prop := Claim7.holds Tryz.pinned (.plain (OpenSpec.ofChange ratioOpsSpec)) ratioOpsCard

/-- THE TIED CARD OF 'numerallaw02.RatioField'. -/
def ratioFieldCard : Claim7 := { stood := { row := ratioFieldRow, standIns := [], harness := (true, "5c63d99472fce0d3a9f79a26a7975c385319325015a5945ed859c3b1630a1332"), looks := false }, kinds := [], alts := [], laidByText := true, laidKinds := [.data, .data, .pinned], laidTests := true, laidLooks := .later }
def RatioFieldCardSaid : Prop := Claim7.holds Tryz.pinned (.plain (OpenSpec.ofChange ratioFieldSpec)) ratioFieldCard

/-- THE TIED CARD OF 'numerallaw02.RatioScales'. -/
def ratioScalesCard : Claim7 := { stood := { row := ratioScalesRow, standIns := [], harness := (true, "5c63d99472fce0d3a9f79a26a7975c385319325015a5945ed859c3b1630a1332"), looks := false }, kinds := [], alts := [], laidByText := true, laidKinds := [.data, .data, .pinned], laidTests := true, laidLooks := .later }
def RatioScalesCardSaid : Prop := Claim7.holds Tryz.pinned (.plain (OpenSpec.ofChange ratioScalesSpec)) ratioScalesCard

/-- THE TIED CARD OF 'numerallaw02.RatioBack'. -/
def ratioBackCard : Claim7 := { stood := { row := ratioBackRow, standIns := [], harness := (true, "5c63d99472fce0d3a9f79a26a7975c385319325015a5945ed859c3b1630a1332"), looks := false }, kinds := [], alts := [], laidByText := true, laidKinds := [.data, .data, .pinned], laidTests := true, laidLooks := .later }
def RatioBackCardSaid : Prop := Claim7.holds Tryz.pinned (.plain (OpenSpec.ofChange ratioBackSpec)) ratioBackCard

/-- THE TIED CARD OF 'numerallaw02.RatioNames'. -/
def ratioNamesCard : Claim7 := { stood := { row := ratioNamesRow, standIns := [], harness := (true, "5c63d99472fce0d3a9f79a26a7975c385319325015a5945ed859c3b1630a1332"), looks := false }, kinds := [], alts := [], laidByText := true, laidKinds := [.data, .data, .pinned], laidTests := true, laidLooks := .later }
def RatioNamesCardSaid : Prop := Claim7.holds Tryz.pinned (.plain (OpenSpec.ofChange ratioNamesSpec)) ratioNamesCard

/-- THE SECOND FORM's CARD OF 'numerallaw02.RatioParses'. -/
def ratioParsesUptoCard : Claim7 := { stood := { row := ratioParsesUptoRow, standIns := [], harness := (true, "5c63d99472fce0d3a9f79a26a7975c385319325015a5945ed859c3b1630a1332"), looks := false }, kinds := [], alts := [], laidByText := true, laidKinds := [.data, .data, .pinned], laidTests := true, laidLooks := .later }
def RatioParsesUptoCardSaid : Prop := Claim7.holds Tryz.pinned (.plain (OpenSpec.upto ratioParsesSpec)) ratioParsesUptoCard

/-- THE SECOND FORM's CARD OF 'numerallaw02.RatioChecks'. -/
def ratioChecksUptoCard : Claim7 := { stood := { row := ratioChecksUptoRow, standIns := [], harness := (true, "5c63d99472fce0d3a9f79a26a7975c385319325015a5945ed859c3b1630a1332"), looks := false }, kinds := [], alts := [], laidByText := true, laidKinds := [.data, .data, .pinned], laidTests := true, laidLooks := .later }
def RatioChecksUptoCardSaid : Prop := Claim7.holds Tryz.pinned (.plain (OpenSpec.upto ratioChecksSpec)) ratioChecksUptoCard

/-- THE SECOND FORM's CARD OF 'numerallaw02.RatioMakes'. -/
def ratioMakesUptoCard : Claim7 := { stood := { row := ratioMakesUptoRow, standIns := [], harness := (true, "5c63d99472fce0d3a9f79a26a7975c385319325015a5945ed859c3b1630a1332"), looks := false }, kinds := [], alts := [], laidByText := true, laidKinds := [.data, .data, .pinned], laidTests := true, laidLooks := .later }
def RatioMakesUptoCardSaid : Prop := Claim7.holds Tryz.pinned (.plain (OpenSpec.upto ratioMakesSpec)) ratioMakesUptoCard

/-- THE SECOND FORM's CARD OF 'numerallaw02.RatioOrder'. -/
def ratioOrderUptoCard : Claim7 := { stood := { row := ratioOrderUptoRow, standIns := [], harness := (true, "5c63d99472fce0d3a9f79a26a7975c385319325015a5945ed859c3b1630a1332"), looks := false }, kinds := [], alts := [], laidByText := true, laidKinds := [.data, .data, .pinned], laidTests := true, laidLooks := .later }
def RatioOrderUptoCardSaid : Prop := Claim7.holds Tryz.pinned (.plain (OpenSpec.upto ratioOrderSpec)) ratioOrderUptoCard

/-- THE SECOND FORM's CARD OF 'numerallaw02.RatioOps'. -/
def ratioOpsUptoCard : Claim7 := { stood := { row := ratioOpsUptoRow, standIns := [], harness := (true, "5c63d99472fce0d3a9f79a26a7975c385319325015a5945ed859c3b1630a1332"), looks := false }, kinds := [], alts := [], laidByText := true, laidKinds := [.data, .data, .pinned], laidTests := true, laidLooks := .later }
def RatioOpsUptoCardSaid : Prop := Claim7.holds Tryz.pinned (.plain (OpenSpec.upto ratioOpsSpec)) ratioOpsUptoCard

/-- THE SECOND FORM's CARD OF 'numerallaw02.RatioField'. -/
def ratioFieldUptoCard : Claim7 := { stood := { row := ratioFieldUptoRow, standIns := [], harness := (true, "5c63d99472fce0d3a9f79a26a7975c385319325015a5945ed859c3b1630a1332"), looks := false }, kinds := [], alts := [], laidByText := true, laidKinds := [.data, .data, .pinned], laidTests := true, laidLooks := .later }
def RatioFieldUptoCardSaid : Prop := Claim7.holds Tryz.pinned (.plain (OpenSpec.upto ratioFieldSpec)) ratioFieldUptoCard

/-- THE SECOND FORM's CARD OF 'numerallaw02.RatioScales'. -/
def ratioScalesUptoCard : Claim7 := { stood := { row := ratioScalesUptoRow, standIns := [], harness := (true, "5c63d99472fce0d3a9f79a26a7975c385319325015a5945ed859c3b1630a1332"), looks := false }, kinds := [], alts := [], laidByText := true, laidKinds := [.data, .data, .pinned], laidTests := true, laidLooks := .later }
def RatioScalesUptoCardSaid : Prop := Claim7.holds Tryz.pinned (.plain (OpenSpec.upto ratioScalesSpec)) ratioScalesUptoCard

/-- THE SECOND FORM's CARD OF 'numerallaw02.RatioBack'. -/
def ratioBackUptoCard : Claim7 := { stood := { row := ratioBackUptoRow, standIns := [], harness := (true, "5c63d99472fce0d3a9f79a26a7975c385319325015a5945ed859c3b1630a1332"), looks := false }, kinds := [], alts := [], laidByText := true, laidKinds := [.data, .data, .pinned], laidTests := true, laidLooks := .later }
def RatioBackUptoCardSaid : Prop := Claim7.holds Tryz.pinned (.plain (OpenSpec.upto ratioBackSpec)) ratioBackUptoCard

/-- THE SECOND FORM's CARD OF 'numerallaw02.RatioNames'. -/
def ratioNamesUptoCard : Claim7 := { stood := { row := ratioNamesUptoRow, standIns := [], harness := (true, "5c63d99472fce0d3a9f79a26a7975c385319325015a5945ed859c3b1630a1332"), looks := false }, kinds := [], alts := [], laidByText := true, laidKinds := [.data, .data, .pinned], laidTests := true, laidLooks := .later }
def RatioNamesUptoCardSaid : Prop := Claim7.holds Tryz.pinned (.plain (OpenSpec.upto ratioNamesSpec)) ratioNamesUptoCard
end Rows
end Go.Proofs.YtnpdpjgkpjodbaaGreatDoor
