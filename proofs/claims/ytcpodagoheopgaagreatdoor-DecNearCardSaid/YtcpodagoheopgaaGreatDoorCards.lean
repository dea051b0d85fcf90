/-
  DERIVED. GIVEN WITH THE SEED: THE CARDS: each row of YtcpodagoheopgaaGreatDoorRows.lean that lists a variable, with what it lists TIED to the program's text (the seventh form; the later family's looks); each row that meets fmt, with fmt's text TOLD by the authors' own Lean function (tested against real Go, not proved from fmt's source: count such statements apart). THE CARD IS WHAT COUNTS. Prove the row's statement (the work); the ties are given (YtcpodagoheopgaaGreatDoorTie.lean); close each card by the builder's one call (the guide's Derived/Test/ToyasCard.lean, 'card_holds'). Laid BY PROGRAM, IN A SANDBOX (cutbox-door.mjs). By AI agents, Wed Nov 11 2026. No macro, syntax, notation, axiom, sorry.
-/
import Derived.Test.YtcpodagoheopgaaGreatDoorRows
import GoSem.ClaimSeven
namespace Go.Proofs.YtcpodagoheopgaaGreatDoor
namespace Rows

/-- THE TIED CARD OF 'numerallaw10.DecNames'. -/
def decNamesCard : Claim7 := { stood := { row := decNamesRow, standIns := [], harness := (true, "408b2483d1d9347bf263d5469d2bf2e034015eb5d80e14d42e12ce5064b2f3c5"), looks := false }, kinds := [], alts := [], laidByText := true, laidKinds := [.data, .data, .pinned], laidTests := true, laidLooks := .later }
def DecNamesCardSaid : Prop := Claim7.holds Tryz.pinned (.plain (OpenSpec.ofChange decNamesSpec)) decNamesCard

/-- THE TIED CARD OF 'numerallaw10.DecNear'. -/
def decNearCard : Claim7 := { stood := { row := decNearRow, standIns := [], harness := (true, "408b2483d1d9347bf263d5469d2bf2e034015eb5d80e14d42e12ce5064b2f3c5"), looks := false }, kinds := [], alts := [], laidByText := true, laidKinds := [.data, .data, .pinned], laidTests := true, laidLooks := .later }
def DecNearCardSaid : Prop := Claim7.holds Tryz.pinned (.plain (OpenSpec.ofChange decNearSpec)) decNearCard

/-- THE TIED CARD OF 'numerallaw10.DecBack'. -/
def decBackCard : Claim7 := { stood := { row := decBackRow, standIns := [], harness := (true, "408b2483d1d9347bf263d5469d2bf2e034015eb5d80e14d42e12ce5064b2f3c5"), looks := false }, kinds := [], alts := [], laidByText := true, laidKinds := [.data, .data, .pinned], laidTests := true, laidLooks := .later }
def DecBackCardSaid : Prop := Claim7.holds Tryz.pinned (.plain (OpenSpec.ofChange decBackSpec)) decBackCard

/-- THE TIED CARD OF 'numerallaw10.DecTexts'. -/
def decTextsCard : Claim7 := { stood := { row := decTextsRow, standIns := [], harness := (true, "408b2483d1d9347bf263d5469d2bf2e034015eb5d80e14d42e12ce5064b2f3c5"), looks := false }, kinds := [], alts := [], laidByText := true, laidKinds := [.data, .data, .data, .data, .pinned], laidTests := true, laidLooks := .later }
def DecTextsCardSaid : Prop := Claim7.holds Tryz.pinned (.plain (OpenSpec.ofChange decTextsSpec)) decTextsCard

/-- THE TIED CARD OF 'numerallaw10.DecExact'. -/
def decExactCard : Claim7 := { stood := { row := decExactRow, standIns := [], harness := (true, "408b2483d1d9347bf263d5469d2bf2e034015eb5d80e14d42e12ce5064b2f3c5"), looks := false }, kinds := [], alts := [], laidByText := true, laidKinds := [.data, .data, .pinned], laidTests := true, laidLooks := .later }
def DecExactCardSaid : Prop := Claim7.holds Tryz.pinned (.plain (OpenSpec.ofChange decExactSpec)) decExactCard

/-- THE SECOND FORM's CARD OF 'numerallaw10.DecNames'. -/
def decNamesUptoCard : Claim7 := { stood := { row := decNamesUptoRow, standIns := [], harness := (true, "408b2483d1d9347bf263d5469d2bf2e034015eb5d80e14d42e12ce5064b2f3c5"), looks := false }, kinds := [], alts := [], laidByText := true, laidKinds := [.data, .data, .pinned], laidTests := true, laidLooks := .later }
def DecNamesUptoCardSaid : Prop := Claim7.holds Tryz.pinned (.plain (OpenSpec.upto decNamesSpec)) decNamesUptoCard

/-- THE SECOND FORM's CARD OF 'numerallaw10.DecNear'. -/
def decNearUptoCard : Claim7 := { stood := { row := decNearUptoRow, standIns := [], harness := (true, "408b2483d1d9347bf263d5469d2bf2e034015eb5d80e14d42e12ce5064b2f3c5"), looks := false }, kinds := [], alts := [], laidByText := true, laidKinds := [.data, .data, .pinned], laidTests := true, laidLooks := .later }
def DecNearUptoCardSaid : Prop := Claim7.holds Tryz.pinned (.plain (OpenSpec.upto decNearSpec)) decNearUptoCard

/-- THE SECOND FORM's CARD OF 'numerallaw10.DecBack'. -/
def decBackUptoCard : Claim7 := { stood := { row := decBackUptoRow, standIns := [], harness := (true, "408b2483d1d9347bf263d5469d2bf2e034015eb5d80e14d42e12ce5064b2f3c5"), looks := false }, kinds := [], alts := [], laidByText := true, laidKinds := [.data, .data, .pinned], laidTests := true, laidLooks := .later }
def DecBackUptoCardSaid : Prop := Claim7.holds Tryz.pinned (.plain (OpenSpec.upto decBackSpec)) decBackUptoCard

/-- THE SECOND FORM's CARD OF 'numerallaw10.DecTexts'. -/
def decTextsUptoCard : Claim7 := { stood := { row := decTextsUptoRow, standIns := [], harness := (true, "408b2483d1d9347bf263d5469d2bf2e034015eb5d80e14d42e12ce5064b2f3c5"), looks := false }, kinds := [], alts := [], laidByText := true, laidKinds := [.data, .data, .data, .data, .pinned], laidTests := true, laidLooks := .later }
def DecTextsUptoCardSaid : Prop := Claim7.holds Tryz.pinned (.plain (OpenSpec.upto decTextsSpec)) decTextsUptoCard

/-- THE SECOND FORM's CARD OF 'numerallaw10.DecExact'. -/
def decExactUptoCard : Claim7 := { stood := { row := decExactUptoRow, standIns := [], harness := (true, "408b2483d1d9347bf263d5469d2bf2e034015eb5d80e14d42e12ce5064b2f3c5"), looks := false }, kinds := [], alts := [], laidByText := true, laidKinds := [.data, .data, .pinned], laidTests := true, laidLooks := .later }
def DecExactUptoCardSaid : Prop := Claim7.holds Tryz.pinned (.plain (OpenSpec.upto decExactSpec)) decExactUptoCard
end Rows
end Go.Proofs.YtcpodagoheopgaaGreatDoor
