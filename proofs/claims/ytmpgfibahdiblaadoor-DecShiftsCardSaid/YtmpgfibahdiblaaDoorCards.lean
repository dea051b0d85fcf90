/-
  DERIVED. GIVEN WITH THE SEED: THE CARDS: each row of YtmpgfibahdiblaaDoorRows.lean that lists a variable, with what it lists TIED to the program's text (the seventh form; the later family's looks); each row that meets fmt, with fmt's text TOLD by the authors' own Lean function (tested against real Go, not proved from fmt's source: count such statements apart). THE CARD IS WHAT COUNTS. Prove the row's statement (the work); the ties are given (YtmpgfibahdiblaaDoorTie.lean); close each card by the builder's one call (the guide's Derived/Test/ToyasCard.lean, 'card_holds'). Laid BY PROGRAM, IN A SANDBOX (cutbox-door.mjs). By AI agents, Wed Nov 11 2026. No macro, syntax, notation, axiom, sorry.
-/
import Derived.Test.YtmpgfibahdiblaaDoorRows
import GoSem.ClaimSeven
namespace Go.Proofs.YtmpgfibahdiblaaDoor
namespace Rows

/-- THE TIED CARD OF 'numerallaw10.DecMakes'. -/
def decMakesCard : Claim7 := { stood := { row := decMakesRow, standIns := [], harness := (true, "04c685e0249a5efa9644ec78e3149f78507e4b8cc6659e91b9bbd71a15b69011"), looks := false }, kinds := [], alts := [], laidByText := true, laidKinds := [.data, .pinned], laidTests := true, laidLooks := .later }
def DecMakesCardSaid : Prop := Claim7.holds Tryd.pinned (.plain (OpenSpec.ofChange decMakesSpec)) decMakesCard

/-- THE TIED CARD OF 'numerallaw10.DecRounds'. -/
def decRoundsCard : Claim7 := { stood := { row := decRoundsRow, standIns := [], harness := (true, "04c685e0249a5efa9644ec78e3149f78507e4b8cc6659e91b9bbd71a15b69011"), looks := false }, kinds := [], alts := [], laidByText := true, laidKinds := [.data, .pinned], laidTests := true, laidLooks := .later }
def DecRoundsCardSaid : Prop := Claim7.holds Tryd.pinned (.plain (OpenSpec.ofChange decRoundsSpec)) decRoundsCard

/-- THE TIED CARD OF 'numerallaw10.DecShifts'. -/
def decShiftsCard : Claim7 := { stood := { row := decShiftsRow, standIns := [], harness := (true, "04c685e0249a5efa9644ec78e3149f78507e4b8cc6659e91b9bbd71a15b69011"), looks := false }, kinds := [], alts := [], laidByText := true, laidKinds := [.data, .data, .data], laidTests := true, laidLooks := .later }
def DecShiftsCardSaid : Prop := Claim7.holds Tryd.pinned (.plain (OpenSpec.ofChange decShiftsSpec)) decShiftsCard

/-- THE SECOND FORM's CARD OF 'numerallaw10.DecMakes'. -/
def decMakesUptoCard : Claim7 := { stood := { row := decMakesUptoRow, standIns := [], harness := (true, "04c685e0249a5efa9644ec78e3149f78507e4b8cc6659e91b9bbd71a15b69011"), looks := false }, kinds := [], alts := [], laidByText := true, laidKinds := [.data, .pinned], laidTests := true, laidLooks := .later }
def DecMakesUptoCardSaid : Prop := Claim7.holds Tryd.pinned (.plain (OpenSpec.upto decMakesSpec)) decMakesUptoCard

/-- THE SECOND FORM's CARD OF 'numerallaw10.DecRounds'. -/
def decRoundsUptoCard : Claim7 := { stood := { row := decRoundsUptoRow, standIns := [], harness := (true, "04c685e0249a5efa9644ec78e3149f78507e4b8cc6659e91b9bbd71a15b69011"), looks := false }, kinds := [], alts := [], laidByText := true, laidKinds := [.data, .pinned], laidTests := true, laidLooks := .later }
def DecRoundsUptoCardSaid : Prop := Claim7.holds Tryd.pinned (.plain (OpenSpec.upto decRoundsSpec)) decRoundsUptoCard

/-- THE SECOND FORM's CARD OF 'numerallaw10.DecShifts'. -/
def decShiftsUptoCard : Claim7 := { stood := { row := decShiftsUptoRow, standIns := [], harness := (true, "04c685e0249a5efa9644ec78e3149f78507e4b8cc6659e91b9bbd71a15b69011"), looks := false }, kinds := [], alts := [], laidByText := true, laidKinds := [.data, .data, .data], laidTests := true, laidLooks := .later }
def DecShiftsUptoCardSaid : Prop := Claim7.holds Tryd.pinned (.plain (OpenSpec.upto decShiftsSpec)) decShiftsUptoCard
end Rows
end Go.Proofs.YtmpgfibahdiblaaDoor
