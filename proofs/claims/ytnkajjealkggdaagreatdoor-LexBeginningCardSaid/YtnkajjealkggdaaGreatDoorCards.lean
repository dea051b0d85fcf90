/-
  DERIVED. GIVEN WITH THE SEED: THE CARDS: each row of YtnkajjealkggdaaGreatDoorRows.lean that lists a variable, with what it lists TIED to the program's text (the seventh form; the later family's looks); each row that meets fmt, with fmt's text TOLD by the authors' own Lean function (tested against real Go, not proved from fmt's source: count such statements apart). THE CARD IS WHAT COUNTS. Prove the row's statement (the work); the ties are given (YtnkajjealkggdaaGreatDoorTie.lean); close each card by the builder's one call (the guide's Derived/Test/ToyasCard.lean, 'card_holds'). Laid BY PROGRAM, IN A SANDBOX (cutbox-door.mjs). By AI agents, Wed Nov 11 2026. No macro, syntax, notation, axiom, sorry.
-/
import Derived.Test.YtnkajjealkggdaaGreatDoorRows
import GoSem.ClaimSeven
namespace Go.Proofs.YtnkajjealkggdaaGreatDoor
namespace Rows

/-- THE TIED CARD OF 'numerallaw11.LexNames'. -/
def lexNamesCard : Claim7 := { stood := { row := lexNamesRow, standIns := [], harness := (true, "8671ccbb4e614d77722df316e0670da0aa7e71f9259b3345827e151dd8806bf4"), looks := true }, kinds := [], alts := [], laidByText := true, laidKinds := [.data, .data, .data, .data, .handle, .sentinel, .sentinel, .pinned], laidTests := true, laidLooks := .later }
def LexNamesCardSaid : Prop := Claim7.holds Tryz.pinned (.plain (OpenSpec.ofChange lexNamesSpec)) lexNamesCard

/-- THE TIED CARD OF 'numerallaw11.LexBegins'. -/
def lexBeginsCard : Claim7 := { stood := { row := lexBeginsRow, standIns := [], harness := (true, "8671ccbb4e614d77722df316e0670da0aa7e71f9259b3345827e151dd8806bf4"), looks := true }, kinds := [], alts := [], laidByText := true, laidKinds := [.data, .data, .data, .data, .handle, .sentinel, .sentinel, .pinned], laidTests := true, laidLooks := .later }
def LexBeginsCardSaid : Prop := Claim7.holds Tryz.pinned (.plain (OpenSpec.ofChange lexBeginsSpec)) lexBeginsCard

/-- THE TIED CARD OF 'numerallaw11.LexDigits'. -/
def lexDigitsCard : Claim7 := { stood := { row := lexDigitsRow, standIns := [], harness := (true, "8671ccbb4e614d77722df316e0670da0aa7e71f9259b3345827e151dd8806bf4"), looks := true }, kinds := [], alts := [], laidByText := true, laidKinds := [.data, .data, .data, .data, .handle, .sentinel, .sentinel, .pinned], laidTests := true, laidLooks := .later }
def LexDigitsCardSaid : Prop := Claim7.holds Tryz.pinned (.plain (OpenSpec.ofChange lexDigitsSpec)) lexDigitsCard

/-- THE TIED CARD OF 'numerallaw11.LexTexts'. -/
def lexTextsCard : Claim7 := { stood := { row := lexTextsRow, standIns := [], harness := (true, "8671ccbb4e614d77722df316e0670da0aa7e71f9259b3345827e151dd8806bf4"), looks := true }, kinds := [], alts := [], laidByText := true, laidKinds := [.data, .data, .data, .data, .handle, .sentinel, .sentinel, .pinned], laidTests := true, laidLooks := .later }
def LexTextsCardSaid : Prop := Claim7.holds Tryz.pinned (.plain (OpenSpec.ofChange lexTextsSpec)) lexTextsCard

/-- THE TIED CARD OF 'numerallaw11.LexBack'. -/
def lexBackCard : Claim7 := { stood := { row := lexBackRow, standIns := [], harness := (true, "8671ccbb4e614d77722df316e0670da0aa7e71f9259b3345827e151dd8806bf4"), looks := true }, kinds := [], alts := [], laidByText := true, laidKinds := [.data, .data, .data, .data, .handle, .sentinel, .sentinel, .pinned], laidTests := true, laidLooks := .later }
def LexBackCardSaid : Prop := Claim7.holds Tryz.pinned (.plain (OpenSpec.ofChange lexBackSpec)) lexBackCard

/-- THE TIED CARD OF 'numerallaw11.LexForm'. -/
def lexFormCard : Claim7 := { stood := { row := lexFormRow, standIns := [], harness := (true, "8671ccbb4e614d77722df316e0670da0aa7e71f9259b3345827e151dd8806bf4"), looks := true }, kinds := [], alts := [], laidByText := true, laidKinds := [.data, .data, .data, .data, .handle, .sentinel, .sentinel, .pinned], laidTests := true, laidLooks := .later }
def LexFormCardSaid : Prop := Claim7.holds Tryz.pinned (.plain (OpenSpec.ofChange lexFormSpec)) lexFormCard

/-- THE TIED CARD OF 'numerallaw11.LexScripts'. -/
def lexScriptsCard : Claim7 := { stood := { row := lexScriptsRow, standIns := [], harness := (true, "8671ccbb4e614d77722df316e0670da0aa7e71f9259b3345827e151dd8806bf4"), looks := true }, kinds := [], alts := [], laidByText := true, laidKinds := [.data, .data, .data, .data, .handle, .sentinel, .sentinel, .pinned], laidTests := true, laidLooks := .later }
def LexScriptsCardSaid : Prop := Claim7.holds Tryz.pinned (.plain (OpenSpec.ofChange lexScriptsSpec)) lexScriptsCard

/-- THE TIED CARD OF 'numerallaw11.LexBeginning'. -/
def lexBeginningCard : Claim7 := { stood := { row := lexBeginningRow, standIns := [], harness := (true, "8671ccbb4e614d77722df316e0670da0aa7e71f9259b3345827e151dd8806bf4"), looks := true }, kinds := [], alts := [], laidByText := true, laidKinds := [.data, .data, .data, .data, .handle, .sentinel, .sentinel, .pinned], laidTests := true, laidLooks := .later }
def LexBeginningCardSaid : Prop := Claim7.holds Tryz.pinned (.plain (OpenSpec.ofChange lexBeginningSpec)) lexBeginningCard

/-- THE TIED CARD OF 'numerallaw11.LexTail'. -/
def lexTailCard : Claim7 := { stood := { row := lexTailRow, standIns := [], harness := (true, "8671ccbb4e614d77722df316e0670da0aa7e71f9259b3345827e151dd8806bf4"), looks := true }, kinds := [], alts := [], laidByText := true, laidKinds := [.data, .data, .data, .data, .handle, .sentinel, .sentinel, .pinned], laidTests := true, laidLooks := .later }
def LexTailCardSaid : Prop := Claim7.holds Tryz.pinned (.plain (OpenSpec.ofChange lexTailSpec)) lexTailCard

/-- THE SECOND FORM's CARD OF 'numerallaw11.LexNames'. -/
def lexNamesUptoCard : Claim7 := { stood := { row := lexNamesUptoRow, standIns := [], harness := (true, "8671ccbb4e614d77722df316e0670da0aa7e71f9259b3345827e151dd8806bf4"), looks := true }, kinds := [], alts := [], laidByText := true, laidKinds := [.data, .data, .data, .data, .handle, .sentinel, .sentinel, .pinned], laidTests := true, laidLooks := .later }
def LexNamesUptoCardSaid : Prop := Claim7.holds Tryz.pinned (.plain (OpenSpec.upto lexNamesSpec)) lexNamesUptoCard

/-- THE SECOND FORM's CARD OF 'numerallaw11.LexBegins'. -/
def lexBeginsUptoCard : Claim7 := { stood := { row := lexBeginsUptoRow, standIns := [], harness := (true, "8671ccbb4e614d77722df316e0670da0aa7e71f9259b3345827e151dd8806bf4"), looks := true }, kinds := [], alts := [], laidByText := true, laidKinds := [.data, .data, .data, .data, .handle, .sentinel, .sentinel, .pinned], laidTests := true, laidLooks := .later }
def LexBeginsUptoCardSaid : Prop := Claim7.holds Tryz.pinned (.plain (OpenSpec.upto lexBeginsSpec)) lexBeginsUptoCard

/-- THE SECOND FORM's CARD OF 'numerallaw11.LexDigits'. -/
def lexDigitsUptoCard : Claim7 := { stood := { row := lexDigitsUptoRow, standIns := [], harness := (true, "8671ccbb4e614d77722df316e0670da0aa7e71f9259b3345827e151dd8806bf4"), looks := true }, kinds := [], alts := [], laidByText := true, laidKinds := [.data, .data, .data, .data, .handle, .sentinel, .sentinel, .pinned], laidTests := true, laidLooks := .later }
def LexDigitsUptoCardSaid : Prop := Claim7.holds Tryz.pinned (.plain (OpenSpec.upto lexDigitsSpec)) lexDigitsUptoCard

/-- THE SECOND FORM's CARD OF 'numerallaw11.LexTexts'. -/
def lexTextsUptoCard : Claim7 := { stood := { row := lexTextsUptoRow, standIns := [], harness := (true, "8671ccbb4e614d77722df316e0670da0aa7e71f9259b3345827e151dd8806bf4"), looks := true }, kinds := [], alts := [], laidByText := true, laidKinds := [.data, .data, .data, .data, .handle, .sentinel, .sentinel, .pinned], laidTests := true, laidLooks := .later }
def LexTextsUptoCardSaid : Prop := Claim7.holds Tryz.pinned (.plain (OpenSpec.upto lexTextsSpec)) lexTextsUptoCard

/-- THE SECOND FORM's CARD OF 'numerallaw11.LexBack'. -/
def lexBackUptoCard : Claim7 := { stood := { row := lexBackUptoRow, standIns := [], harness := (true, "8671ccbb4e614d77722df316e0670da0aa7e71f9259b3345827e151dd8806bf4"), looks := true }, kinds := [], alts := [], laidByText := true, laidKinds := [.data, .data, .data, .data, .handle, .sentinel, .sentinel, .pinned], laidTests := true, laidLooks := .later }
def LexBackUptoCardSaid : Prop := Claim7.holds Tryz.pinned (.plain (OpenSpec.upto lexBackSpec)) lexBackUptoCard

/-- THE SECOND FORM's CARD OF 'numerallaw11.LexForm'. -/
def lexFormUptoCard : Claim7 := { stood := { row := lexFormUptoRow, standIns := [], harness := (true, "8671ccbb4e614d77722df316e0670da0aa7e71f9259b3345827e151dd8806bf4"), looks := true }, kinds := [], alts := [], laidByText := true, laidKinds := [.data, .data, .data, .data, .handle, .sentinel, .sentinel, .pinned], laidTests := true, laidLooks := .later }
def LexFormUptoCardSaid : Prop := Claim7.holds Tryz.pinned (.plain (OpenSpec.upto lexFormSpec)) lexFormUptoCard

/-- THE SECOND FORM's CARD OF 'numerallaw11.LexScripts'. -/
def lexScriptsUptoCard : Claim7 := { stood := { row := lexScriptsUptoRow, standIns := [], harness := (true, "8671ccbb4e614d77722df316e0670da0aa7e71f9259b3345827e151dd8806bf4"), looks := true }, kinds := [], alts := [], laidByText := true, laidKinds := [.data, .data, .data, .data, .handle, .sentinel, .sentinel, .pinned], laidTests := true, laidLooks := .later }
def LexScriptsUptoCardSaid : Prop := Claim7.holds Tryz.pinned (.plain (OpenSpec.upto lexScriptsSpec)) lexScriptsUptoCard

/-- THE SECOND FORM's CARD OF 'numerallaw11.LexBeginning'. -/
def lexBeginningUptoCard : Claim7 := { stood := { row := lexBeginningUptoRow, standIns := [], harness := (true, "8671ccbb4e614d77722df316e0670da0aa7e71f9259b3345827e151dd8806bf4"), looks := true }, kinds := [], alts := [], laidByText := true, laidKinds := [.data, .data, .data, .data, .handle, .sentinel, .sentinel, .pinned], laidTests := true, laidLooks := .later }
def LexBeginningUptoCardSaid : Prop := Claim7.holds Tryz.pinned (.plain (OpenSpec.upto lexBeginningSpec)) lexBeginningUptoCard

/-- THE SECOND FORM's CARD OF 'numerallaw11.LexTail'. -/
def lexTailUptoCard : Claim7 := { stood := { row := lexTailUptoRow, standIns := [], harness := (true, "8671ccbb4e614d77722df316e0670da0aa7e71f9259b3345827e151dd8806bf4"), looks := true }, kinds := [], alts := [], laidByText := true, laidKinds := [.data, .data, .data, .data, .handle, .sentinel, .sentinel, .pinned], laidTests := true, laidLooks := .later }
def LexTailUptoCardSaid : Prop := Claim7.holds Tryz.pinned (.plain (OpenSpec.upto lexTailSpec)) lexTailUptoCard
end Rows
end Go.Proofs.YtnkajjealkggdaaGreatDoor
