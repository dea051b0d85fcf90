/-
  DERIVED. GIVEN WITH THE SEED: THE CARDS: each row of YtdjegfnkpagdaaaGreatDoorRows.lean that lists a variable, with what it lists TIED to the program's text (the seventh form; the later family's looks); each row that meets fmt, with fmt's text TOLD by the authors' own Lean function (tested against real Go, not proved from fmt's source: count such statements apart). THE CARD IS WHAT COUNTS. Prove the row's statement (the work); the ties are given (YtdjegfnkpagdaaaGreatDoorTie.lean); close each card by the builder's one call (the guide's Derived/Test/ToyasCard.lean, 'card_holds'). Laid BY PROGRAM, IN A SANDBOX (cutbox-door.mjs). By AI agents, Wed Nov 11 2026. No macro, syntax, notation, axiom, sorry.
-/
import Derived.Test.YtdjegfnkpagdaaaGreatDoorRows
import GoSem.ClaimSeven
namespace Go.Proofs.YtdjegfnkpagdaaaGreatDoor
namespace Rows

/-- THE TIED CARD OF 'numerallaw10.DecBack'. -/
def decBackCard : Claim7 := { stood := { row := decBackRow, standIns := [], harness := (true, "133509509896ac6820c0710b71f866f32412b4ead2c924008d03b663829c9ca7"), looks := false }, kinds := [], alts := [], laidByText := true, laidKinds := [.data, .data, .pinned], laidTests := true, laidLooks := .later }
def DecBackCardSaid : Prop := Claim7.holds Tryz.pinned (.plain (OpenSpec.ofChange decBackSpec)) decBackCard

/-- THE TIED CARD OF 'numerallaw10.DecExact'. -/
def decExactCard : Claim7 := { stood := { row := decExactRow, standIns := [], harness := (true, "133509509896ac6820c0710b71f866f32412b4ead2c924008d03b663829c9ca7"), looks := false }, kinds := [], alts := [], laidByText := true, laidKinds := [.data, .data, .pinned], laidTests := true, laidLooks := .later }
def DecExactCardSaid : Prop := Claim7.holds Tryz.pinned (.plain (OpenSpec.ofChange decExactSpec)) decExactCard

/-- THE SECOND FORM's CARD OF 'numerallaw10.DecBack'. -/
def decBackUptoCard : Claim7 := { stood := { row := decBackUptoRow, standIns := [], harness := (true, "133509509896ac6820c0710b71f866f32412b4ead2c924008d03b663829c9ca7"), looks := false }, kinds := [], alts := [], laidByText := true, laidKinds := [.data, .data, .pinned], laidTests := true, laidLooks := .later }
def DecBackUptoCardSaid : Prop := Claim7.holds Tryz.pinned (.plain (OpenSpec.upto decBackSpec)) decBackUptoCard

/-- THE SECOND FORM's CARD OF 'numerallaw10.DecExact'. -/
def decExactUptoCard : Claim7 := { stood := { row := decExactUptoRow, standIns := [], harness := (true, "133509509896ac6820c0710b71f866f32412b4ead2c924008d03b663829c9ca7"), looks := false }, kinds := [], alts := [], laidByText := true, laidKinds := [.data, .data, .pinned], laidTests := true, laidLooks := .later }
def DecExactUptoCardSaid : Prop := Claim7.holds Tryz.pinned (.plain (OpenSpec.upto decExactSpec)) decExactUptoCard
end Rows
end Go.Proofs.YtdjegfnkpagdaaaGreatDoor
