/-
  DERIVED. GIVEN WITH THE SEED: THE CARDS: each row of YtebgmicpecekgaaDoorRows.lean that lists a variable, with what it lists TIED to the program's text (the seventh form; the later family's looks); each row that meets fmt, with fmt's text TOLD by the authors' own Lean function (tested against real Go, not proved from fmt's source: count such statements apart). THE CARD IS WHAT COUNTS. Prove the row's statement (the work); the ties are given (YtebgmicpecekgaaDoorTie.lean); close each card by the builder's one call (the guide's Derived/Test/ToyasCard.lean, 'card_holds'). Laid BY PROGRAM, IN A SANDBOX (cutbox-door.mjs). By AI agents, Wed Nov 11 2026. No macro, syntax, notation, axiom, sorry.
-/
import Derived.Test.YtebgmicpecekgaaDoorRows
import GoSem.ClaimSeven
namespace Go.Proofs.YtebgmicpecekgaaDoor
namespace Rows

/-- THE TIED CARD OF 'numerallaw23.MarksChecks'. -/
def marksChecksCard : Claim7 := { stood := { row := marksChecksRow, standIns := [], harness := (true, "628d9e711ae0771807aa809e316bbce6d49a28976a001f50e84d7dc0a0d23797"), looks := true }, kinds := [], alts := [], laidByText := true, laidKinds := [.data, .handle, .pinned], laidTests := true, laidLooks := .later }
def MarksChecksCardSaid : Prop := Claim7.holds Tryd.pinned (.plain (OpenSpec.ofChange marksChecksSpec)) marksChecksCard

/-- THE TIED CARD OF 'numerallaw23.MarksAcross'. -/
def marksAcrossCard : Claim7 := { stood := { row := marksAcrossRow, standIns := [], harness := (true, "628d9e711ae0771807aa809e316bbce6d49a28976a001f50e84d7dc0a0d23797"), looks := true }, kinds := [], alts := [], laidByText := true, laidKinds := [.data, .handle, .pinned], laidTests := true, laidLooks := .later }
def MarksAcrossCardSaid : Prop := Claim7.holds Tryd.pinned (.plain (OpenSpec.ofChange marksAcrossSpec)) marksAcrossCard

/-- THE TIED CARD OF 'numerallaw23.MarksGroups'. -/
def marksGroupsCard : Claim7 := { stood := { row := marksGroupsRow, standIns := [], harness := (true, "628d9e711ae0771807aa809e316bbce6d49a28976a001f50e84d7dc0a0d23797"), looks := true }, kinds := [], alts := [], laidByText := true, laidKinds := [.data, .handle, .pinned], laidTests := true, laidLooks := .later }
def MarksGroupsCardSaid : Prop := Claim7.holds Tryd.pinned (.plain (OpenSpec.ofChange marksGroupsSpec)) marksGroupsCard

/-- THE TIED CARD OF 'numerallaw23.MarksBack'. -/
def marksBackCard : Claim7 := { stood := { row := marksBackRow, standIns := [], harness := (true, "628d9e711ae0771807aa809e316bbce6d49a28976a001f50e84d7dc0a0d23797"), looks := true }, kinds := [], alts := [], laidByText := true, laidKinds := [.data, .handle, .pinned], laidTests := true, laidLooks := .later }
def MarksBackCardSaid : Prop := Claim7.holds Tryd.pinned (.plain (OpenSpec.ofChange marksBackSpec)) marksBackCard

/-- THE SECOND FORM's CARD OF 'numerallaw23.MarksChecks'. -/
def marksChecksUptoCard : Claim7 := { stood := { row := marksChecksUptoRow, standIns := [], harness := (true, "628d9e711ae0771807aa809e316bbce6d49a28976a001f50e84d7dc0a0d23797"), looks := true }, kinds := [], alts := [], laidByText := true, laidKinds := [.data, .handle, .pinned], laidTests := true, laidLooks := .later }
def MarksChecksUptoCardSaid : Prop := Claim7.holds Tryd.pinned (.plain (OpenSpec.upto marksChecksSpec)) marksChecksUptoCard

/-- THE SECOND FORM's CARD OF 'numerallaw23.MarksAcross'. -/
def marksAcrossUptoCard : Claim7 := { stood := { row := marksAcrossUptoRow, standIns := [], harness := (true, "628d9e711ae0771807aa809e316bbce6d49a28976a001f50e84d7dc0a0d23797"), looks := true }, kinds := [], alts := [], laidByText := true, laidKinds := [.data, .handle, .pinned], laidTests := true, laidLooks := .later }
def MarksAcrossUptoCardSaid : Prop := Claim7.holds Tryd.pinned (.plain (OpenSpec.upto marksAcrossSpec)) marksAcrossUptoCard

/-- THE SECOND FORM's CARD OF 'numerallaw23.MarksGroups'. -/
def marksGroupsUptoCard : Claim7 := { stood := { row := marksGroupsUptoRow, standIns := [], harness := (true, "628d9e711ae0771807aa809e316bbce6d49a28976a001f50e84d7dc0a0d23797"), looks := true }, kinds := [], alts := [], laidByText := true, laidKinds := [.data, .handle, .pinned], laidTests := true, laidLooks := .later }
def MarksGroupsUptoCardSaid : Prop := Claim7.holds Tryd.pinned (.plain (OpenSpec.upto marksGroupsSpec)) marksGroupsUptoCard

/-- THE SECOND FORM's CARD OF 'numerallaw23.MarksBack'. -/
def marksBackUptoCard : Claim7 := { stood := { row := marksBackUptoRow, standIns := [], harness := (true, "628d9e711ae0771807aa809e316bbce6d49a28976a001f50e84d7dc0a0d23797"), looks := true }, kinds := [], alts := [], laidByText := true, laidKinds := [.data, .handle, .pinned], laidTests := true, laidLooks := .later }
def MarksBackUptoCardSaid : Prop := Claim7.holds Tryd.pinned (.plain (OpenSpec.upto marksBackSpec)) marksBackUptoCard
end Rows
end Go.Proofs.YtebgmicpecekgaaDoor
