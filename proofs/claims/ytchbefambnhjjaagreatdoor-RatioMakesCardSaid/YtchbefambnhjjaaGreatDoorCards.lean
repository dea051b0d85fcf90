/-
  DERIVED. GIVEN WITH THE SEED: THE CARDS: each row of YtchbefambnhjjaaGreatDoorRows.lean that lists a variable, with what it lists TIED to the program's text (the seventh form; the later family's looks); each row that meets fmt, with fmt's text TOLD by the authors' own Lean function (tested against real Go, not proved from fmt's source: count such statements apart). THE CARD IS WHAT COUNTS. Prove the row's statement (the work); the ties are given (YtchbefambnhjjaaGreatDoorTie.lean); close each card by the builder's one call (the guide's Derived/Test/ToyasCard.lean, 'card_holds'). Laid BY PROGRAM, IN A SANDBOX (cutbox-door.mjs). By AI agents, Wed Nov 11 2026. No macro, syntax, notation, axiom, sorry.
-/
import Derived.Test.YtchbefambnhjjaaGreatDoorRows
import GoSem.ClaimSeven
namespace Go.Proofs.YtchbefambnhjjaaGreatDoor
namespace Rows

/-- THE TIED CARD OF 'numerallaw02.RatioParses'. -/
def ratioParsesCard : Claim7 := { stood := { row := ratioParsesRow, standIns := [], harness := (true, "fcc9bd5cfc8f8eeede21c4e4bddb45c4d5758194f0ce39c6f6fc5d8f5f33084a"), looks := false }, kinds := [], alts := [], laidByText := true, laidKinds := [.data, .data, .pinned], laidTests := true, laidLooks := .later }
def RatioParsesCardSaid : Prop := Claim7.holds Tryz.pinned (.plain (OpenSpec.ofChange ratioParsesSpec)) ratioParsesCard

/-- THE TIED CARD OF 'numerallaw02.RatioChecks'. -/
def ratioChecksCard : Claim7 := { stood := { row := ratioChecksRow, standIns := [], harness := (true, "fcc9bd5cfc8f8eeede21c4e4bddb45c4d5758194f0ce39c6f6fc5d8f5f33084a"), looks := false }, kinds := [], alts := [], laidByText := true, laidKinds := [.data, .data, .pinned], laidTests := true, laidLooks := .later }
def RatioChecksCardSaid : Prop := Claim7.holds Tryz.pinned (.plain (OpenSpec.ofChange ratioChecksSpec)) ratioChecksCard

/-- THE TIED CARD OF 'numerallaw02.RatioMakes'. -/
def ratioMakesCard : Claim7 := { stood := { row := ratioMakesRow, standIns := [], harness := (true, "fcc9bd5cfc8f8eeede21c4e4bddb45c4d5758194f0ce39c6f6fc5d8f5f33084a"), looks := false }, kinds := [], alts := [], laidByText := true, laidKinds := [.data, .data, .pinned], laidTests := true, laidLooks := .later }
def RatioMakesCardSaid : Prop := Claim7.holds Tryz.pinned (.plain (OpenSpec.ofChange ratioMakesSpec)) ratioMakesCard

/-- THE TIED CARD OF 'numerallaw02.RatioOps'. -/
def ratioOpsCard : Claim7 := { stood := { row := ratioOpsRow, standIns := [], harness := (true, "fcc9bd5cfc8f8eeede21c4e4bddb45c4d5758194f0ce39c6f6fc5d8f5f33084a"), looks := false }, kinds := [], alts := [], laidByText := true, laidKinds := [.data, .data, .pinned], laidTests := true, laidLooks := .later }
def RatioOpsCardSaid : Prop := Claim7.holds Tryz.pinned (.plain (OpenSpec.ofChange ratioOpsSpec)) ratioOpsCard

/-- THE TIED CARD OF 'numerallaw02.RatioScales'. -/
def ratioScalesCard : Claim7 := { stood := { row := ratioScalesRow, standIns := [], harness := (true, "fcc9bd5cfc8f8eeede21c4e4bddb45c4d5758194f0ce39c6f6fc5d8f5f33084a"), looks := false }, kinds := [], alts := [], laidByText := true, laidKinds := [.data, .data, .pinned], laidTests := true, laidLooks := .later }
def RatioScalesCardSaid : Prop := Claim7.holds Tryz.pinned (.plain (OpenSpec.ofChange ratioScalesSpec)) ratioScalesCard

/-- THE TIED CARD OF 'numerallaw02.RatioNames'. -/
def ratioNamesCard : Claim7 := { stood := { row := ratioNamesRow, standIns := [], harness := (true, "fcc9bd5cfc8f8eeede21c4e4bddb45c4d5758194f0ce39c6f6fc5d8f5f33084a"), looks := false }, kinds := [], alts := [], laidByText := true, laidKinds := [.data, .data, .pinned], laidTests := true, laidLooks := .later }
def RatioNamesCardSaid : Prop := Claim7.holds Tryz.pinned (.plain (OpenSpec.ofChange ratioNamesSpec)) ratioNamesCard

/-- THE SECOND FORM's CARD OF 'numerallaw02.RatioParses'. -/
def ratioParsesUptoCard : Claim7 := { stood := { row := ratioParsesUptoRow, standIns := [], harness := (true, "fcc9bd5cfc8f8eeede21c4e4bddb45c4d5758194f0ce39c6f6fc5d8f5f33084a"), looks := false }, kinds := [], alts := [], laidByText := true, laidKinds := [.data, .data, .pinned], laidTests := true, laidLooks := .later }
def RatioParsesUptoCardSaid : Prop := Claim7.holds Tryz.pinned (.plain (OpenSpec.upto ratioParsesSpec)) ratioParsesUptoCard

/-- THE SECOND FORM's CARD OF 'numerallaw02.RatioChecks'. -/
def ratioChecksUptoCard : Claim7 := { stood := { row := ratioChecksUptoRow, standIns := [], harness := (true, "fcc9bd5cfc8f8eeede21c4e4bddb45c4d5758194f0ce39c6f6fc5d8f5f33084a"), looks := false }, kinds := [], alts := [], laidByText := true, laidKinds := [.data, .data, .pinned], laidTests := true, laidLooks := .later }
def RatioChecksUptoCardSaid : Prop := Claim7.holds Tryz.pinned (.plain (OpenSpec.upto ratioChecksSpec)) ratioChecksUptoCard

/-- THE SECOND FORM's CARD OF 'numerallaw02.RatioMakes'. -/
def ratioMakesUptoCard : Claim7 := { stood := { row := ratioMakesUptoRow, standIns := [], harness := (true, "fcc9bd5cfc8f8eeede21c4e4bddb45c4d5758194f0ce39c6f6fc5d8f5f33084a"), looks := false }, kinds := [], alts := [], laidByText := true, laidKinds := [.data, .data, .pinned], laidTests := true, laidLooks := .later }
def RatioMakesUptoCardSaid : Prop := Claim7.holds Tryz.pinned (.plain (OpenSpec.upto ratioMakesSpec)) ratioMakesUptoCard

/-- THE SECOND FORM's CARD OF 'numerallaw02.RatioOps'. -/
def ratioOpsUptoCard : Claim7 := { stood := { row := ratioOpsUptoRow, standIns := [], harness := (true, "fcc9bd5cfc8f8eeede21c4e4bddb45c4d5758194f0ce39c6f6fc5d8f5f33084a"), looks := false }, kinds := [], alts := [], laidByText := true, laidKinds := [.data, .data, .pinned], laidTests := true, laidLooks := .later }
def RatioOpsUptoCardSaid : Prop := Claim7.holds Tryz.pinned (.plain (OpenSpec.upto ratioOpsSpec)) ratioOpsUptoCard

/-- THE SECOND FORM's CARD OF 'numerallaw02.RatioScales'. -/
def ratioScalesUptoCard : Claim7 := { stood := { row := ratioScalesUptoRow, standIns := [], harness := (true, "fcc9bd5cfc8f8eeede21c4e4bddb45c4d5758194f0ce39c6f6fc5d8f5f33084a"), looks := false }, kinds := [], alts := [], laidByText := true, laidKinds := [.data, .data, .pinned], laidTests := true, laidLooks := .later }
def RatioScalesUptoCardSaid : Prop := Claim7.holds Tryz.pinned (.plain (OpenSpec.upto ratioScalesSpec)) ratioScalesUptoCard

/-- THE SECOND FORM's CARD OF 'numerallaw02.RatioNames'. -/
def ratioNamesUptoCard : Claim7 := { stood := { row := ratioNamesUptoRow, standIns := [], harness := (true, "fcc9bd5cfc8f8eeede21c4e4bddb45c4d5758194f0ce39c6f6fc5d8f5f33084a"), looks := false }, kinds := [], alts := [], laidByText := true, laidKinds := [.data, .data, .pinned], laidTests := true, laidLooks := .later }
def RatioNamesUptoCardSaid : Prop := Claim7.holds Tryz.pinned (.plain (OpenSpec.upto ratioNamesSpec)) ratioNamesUptoCard
end Rows
end Go.Proofs.YtchbefambnhjjaaGreatDoor
