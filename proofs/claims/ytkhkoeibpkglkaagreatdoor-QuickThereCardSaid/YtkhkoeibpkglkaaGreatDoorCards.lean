/-
  DERIVED. GIVEN WITH THE SEED: THE CARDS: each row of YtkhkoeibpkglkaaGreatDoorRows.lean that lists a variable, with what it lists TIED to the program's text (the seventh form; the later family's looks); each row that meets fmt, with fmt's text TOLD by the authors' own Lean function (tested against real Go, not proved from fmt's source: count such statements apart). THE CARD IS WHAT COUNTS. Prove the row's statement (the work); the ties are given (YtkhkoeibpkglkaaGreatDoorTie.lean); close each card by the builder's one call (the guide's Derived/Test/ToyasCard.lean, 'card_holds'). Laid BY PROGRAM, IN A SANDBOX (cutbox-door.mjs). By AI agents, Wed Nov 11 2026. No macro, syntax, notation, axiom, sorry.
-/
import Derived.Test.YtkhkoeibpkglkaaGreatDoorRows
import GoSem.ClaimSeven
namespace Go.Proofs.YtkhkoeibpkglkaaGreatDoor
namespace Rows

/-- THE TIED CARD OF 'numerallaw14.QuickNames'. -/
def quickNamesCard : Claim7 := { stood := { row := quickNamesRow, standIns := [], harness := (true, "72501f1178973415695c04c6e64300259cfa122c3d0e289f5b2280d9464e3a75"), looks := true }, kinds := [], alts := [], laidByText := true, laidKinds := [.data, .data, .data, .sentinel, .sentinel], laidTests := true, laidLooks := .later }
def QuickNamesCardSaid : Prop := Claim7.holds Tryz.pinned (.plain (OpenSpec.ofChange quickNamesSpec)) quickNamesCard

/-- THE TIED CARD OF 'numeraltop.TopRounded'. -/
def topRoundedCard : Claim7 := { stood := { row := topRoundedRow, standIns := [], harness := (true, "72501f1178973415695c04c6e64300259cfa122c3d0e289f5b2280d9464e3a75"), looks := true }, kinds := [], alts := [], laidByText := true, laidKinds := [.data], laidTests := true, laidLooks := .later }
def TopRoundedCardSaid : Prop := Claim7.holds Tryz.pinned (.plain (OpenSpec.ofChange topRoundedSpec)) topRoundedCard

/-- THE TIED CARD OF 'numerallaw14.QuickSure'. -/
def quickSureCard : Claim7 := { stood := { row := quickSureRow, standIns := [], harness := (true, "72501f1178973415695c04c6e64300259cfa122c3d0e289f5b2280d9464e3a75"), looks := true }, kinds := [], alts := [], laidByText := true, laidKinds := [.data, .data, .data, .data, .sentinel, .sentinel, .pinned], laidTests := true, laidLooks := .later }
def QuickSureCardSaid : Prop := Claim7.holds Tryz.pinned (.plain (OpenSpec.ofChange quickSureSpec)) quickSureCard

/-- THE TIED CARD OF 'numerallaw14.QuickRight'. -/
def quickRightCard : Claim7 := { stood := { row := quickRightRow, standIns := [], harness := (true, "72501f1178973415695c04c6e64300259cfa122c3d0e289f5b2280d9464e3a75"), looks := true }, kinds := [], alts := [], laidByText := true, laidKinds := [.data, .data, .data, .sentinel, .sentinel], laidTests := true, laidLooks := .later }
def QuickRightCardSaid : Prop := Claim7.holds Tryz.pinned (.plain (OpenSpec.ofChange quickRightSpec)) quickRightCard

/-- THE TIED CARD OF 'numerallaw14.QuickThere'. -/
def quickThereCard : Claim7 := { stood := { row := quickThereRow, standIns := [], harness := (true, "72501f1178973415695c04c6e64300259cfa122c3d0e289f5b2280d9464e3a75"), looks := true }, kinds := [], alts := [], laidByText := true, laidKinds := [.data, .data, .data, .data, .sentinel, .sentinel, .pinned], laidTests := true, laidLooks := .later }
def QuickThereCardSaid : Prop := Claim7.holds Tryz.pinned (.plain (OpenSpec.ofChange quickThereSpec)) quickThereCard

/-- THE SECOND FORM's CARD OF 'numerallaw14.QuickNames'. -/
def quickNamesUptoCard : Claim7 := { stood := { row := quickNamesUptoRow, standIns := [], harness := (true, "72501f1178973415695c04c6e64300259cfa122c3d0e289f5b2280d9464e3a75"), looks := true }, kinds := [], alts := [], laidByText := true, laidKinds := [.data, .data, .data, .sentinel, .sentinel], laidTests := true, laidLooks := .later }
def QuickNamesUptoCardSaid : Prop := Claim7.holds Tryz.pinned (.plain (OpenSpec.upto quickNamesSpec)) quickNamesUptoCard

/-- THE SECOND FORM's CARD OF 'numeraltop.TopRounded'. -/
def topRoundedUptoCard : Claim7 := { stood := { row := topRoundedUptoRow, standIns := [], harness := (true, "72501f1178973415695c04c6e64300259cfa122c3d0e289f5b2280d9464e3a75"), looks := true }, kinds := [], alts := [], laidByText := true, laidKinds := [.data], laidTests := true, laidLooks := .later }
def TopRoundedUptoCardSaid : Prop := Claim7.holds Tryz.pinned (.plain (OpenSpec.upto topRoundedSpec)) topRoundedUptoCard

/-- THE SECOND FORM's CARD OF 'numerallaw14.QuickSure'. -/
def quickSureUptoCard : Claim7 := { stood := { row := quickSureUptoRow, standIns := [], harness := (true, "72501f1178973415695c04c6e64300259cfa122c3d0e289f5b2280d9464e3a75"), looks := true }, kinds := [], alts := [], laidByText := true, laidKinds := [.data, .data, .data, .data, .sentinel, .sentinel, .pinned], laidTests := true, laidLooks := .later }
def QuickSureUptoCardSaid : Prop := Claim7.holds Tryz.pinned (.plain (OpenSpec.upto quickSureSpec)) quickSureUptoCard

/-- THE SECOND FORM's CARD OF 'numerallaw14.QuickRight'. -/
def quickRightUptoCard : Claim7 := { stood := { row := quickRightUptoRow, standIns := [], harness := (true, "72501f1178973415695c04c6e64300259cfa122c3d0e289f5b2280d9464e3a75"), looks := true }, kinds := [], alts := [], laidByText := true, laidKinds := [.data, .data, .data, .sentinel, .sentinel], laidTests := true, laidLooks := .later }
def QuickRightUptoCardSaid : Prop := Claim7.holds Tryz.pinned (.plain (OpenSpec.upto quickRightSpec)) quickRightUptoCard

/-- THE SECOND FORM's CARD OF 'numerallaw14.QuickThere'. -/
def quickThereUptoCard : Claim7 := { stood := { row := quickThereUptoRow, standIns := [], harness := (true, "72501f1178973415695c04c6e64300259cfa122c3d0e289f5b2280d9464e3a75"), looks := true }, kinds := [], alts := [], laidByText := true, laidKinds := [.data, .data, .data, .data, .sentinel, .sentinel, .pinned], laidTests := true, laidLooks := .later }
def QuickThereUptoCardSaid : Prop := Claim7.holds Tryz.pinned (.plain (OpenSpec.upto quickThereSpec)) quickThereUptoCard
end Rows
end Go.Proofs.YtkhkoeibpkglkaaGreatDoor
