/-
  DERIVED. GIVEN WITH THE SEED: THE CARDS: each row of YtfdmhefjmnlllaaGreatDoorRows.lean that lists a variable, with what it lists TIED to the program's text (the seventh form; the later family's looks); each row that meets fmt, with fmt's text TOLD by the authors' own Lean function (tested against real Go, not proved from fmt's source: count such statements apart). THE CARD IS WHAT COUNTS. Prove the row's statement (the work); the ties are given (YtfdmhefjmnlllaaGreatDoorTie.lean); close each card by the builder's one call (the guide's Derived/Test/ToyasCard.lean, 'card_holds'). Laid BY PROGRAM, IN A SANDBOX (cutbox-door.mjs). By AI agents, Wed Nov 11 2026. No macro, syntax, notation, axiom, sorry.
-/
import Derived.Test.YtfdmhefjmnlllaaGreatDoorRows
import GoSem.ClaimSeven
namespace Go.Proofs.YtfdmhefjmnlllaaGreatDoor
namespace Rows

/-- THE TIED CARD OF 'numerallaw02.RatioChecks'. -/
def ratioChecksCard : Claim7 := { stood := { row := ratioChecksRow, standIns := [], harness := (true, "8f58a86f8e3e5bdb9fa5b87571e7f03af28b7529c80da87de9ac66ff4216f967"), looks := false }, kinds := [], alts := [], laidByText := true, laidKinds := [.data, .data, .pinned], laidTests := true, laidLooks := .later }
def RatioChecksCardSaid : Prop := Claim7.holds Tryz.pinned (.plain (OpenSpec.ofChange ratioChecksSpec)) ratioChecksCard

/-- THE TIED CARD OF 'numerallaw02.RatioNames'. -/
def ratioNamesCard : Claim7 := { stood := { row := ratioNamesRow, standIns := [], harness := (true, "8f58a86f8e3e5bdb9fa5b87571e7f03af28b7529c80da87de9ac66ff4216f967"), looks := false }, kinds := [], alts := [], laidByText := true, laidKinds := [.data, .data, .pinned], laidTests := true, laidLooks := .later }
def RatioNamesCardSaid : Prop := Claim7.holds Tryz.pinned (.plain (OpenSpec.ofChange ratioNamesSpec)) ratioNamesCard

/-- THE SECOND FORM's CARD OF 'numerallaw02.RatioChecks'. -/
def ratioChecksUptoCard : Claim7 := { stood := { row := ratioChecksUptoRow, standIns := [], harness := (true, "8f58a86f8e3e5bdb9fa5b87571e7f03af28b7529c80da87de9ac66ff4216f967"), looks := false }, kinds := [], alts := [], laidByText := true, laidKinds := [.data, .data, .pinned], laidTests := true, laidLooks := .later }
def RatioChecksUptoCardSaid : Prop := Claim7.holds Tryz.pinned (.plain (OpenSpec.upto ratioChecksSpec)) ratioChecksUptoCard

/-- THE SECOND FORM's CARD OF 'numerallaw02.RatioNames'. -/
def ratioNamesUptoCard : Claim7 := { stood := { row := ratioNamesUptoRow, standIns := [], harness := (true, "8f58a86f8e3e5bdb9fa5b87571e7f03af28b7529c80da87de9ac66ff4216f967"), looks := false }, kinds := [], alts := [], laidByText := true, laidKinds := [.data, .data, .pinned], laidTests := true, laidLooks := .later }
def RatioNamesUptoCardSaid : Prop := Claim7.holds Tryz.pinned (.plain (OpenSpec.upto ratioNamesSpec)) ratioNamesUptoCard
end Rows
end Go.Proofs.YtfdmhefjmnlllaaGreatDoor
