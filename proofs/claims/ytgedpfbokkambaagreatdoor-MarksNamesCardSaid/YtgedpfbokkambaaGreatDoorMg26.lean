/- Lemmas of this proof, laid together: LawW. -/
import Derived.Test.YtgedpfbokkambaaGreatDoorMg25
import Derived.Test.YtgedpfbokkambaaGreatDoorMg16
import Derived.Lay
import Derived.LaidHandle
set_option linter.unusedSimpArgs false
set_option linter.unusedVariables false
section
/- A world in which the rows' listed variables stand: two tables, and the handle of the type 'error'. -/
namespace Go.Proofs.YtgedpfbokkambaaGreatDoor
open Go.ChangeShapes Go.WideShapes Go.ChangeAt Go.RowKit
set_option maxRecDepth 100000
abbrev lwTabs : List (String × DataW Unit) := [("unicode/utf8.acceptRanges", Rows.laid_unicode_utf8_acceptRanges), ("unicode/utf8.first", Rows.laid_unicode_utf8_first)]
abbrev lwLaid : List (String × DataW Unit) := [("unicode/utf8.acceptRanges", Rows.laid_unicode_utf8_acceptRanges), ("errors.errorType", Rows.laid_errors_errorType), ("unicode/utf8.first", Rows.laid_unicode_utf8_first)]
noncomputable def lwBase (os : Os) : World :=
  { World.holding Tryz.prog os ⟨#[], #[], []⟩ with heap := (World.holding Tryz.prog os ⟨#[], #[], []⟩).heap.modify 0 fun
      | .cells _ t frozen => .cells #[.iface 110 (rtyV 29)] t frozen
      | o => o }
noncomputable def lwWit (os : Os) : World := (lwBase os).layVars Tryz.prog lwTabs
theorem lwWit_os (os : Os) : (lwWit os).os = os := by unfold lwWit; rw [World.layVars_os]; rfl
theorem lwWit_fits (os : Os) : (lwBase os).layFits Tryz.prog lwTabs [] = true := by kernel_rfl
theorem lwWit_ifaces (os : Os) : (lwBase os).layIfaces Tryz.prog lwTabs (lwWit os) = true := by kernel_rfl
theorem lwWit_tabs (os : Os) : laidMet Tryz.prog lwTabs (lwWit os) := by
  have e1 : (lwTabs.filter fun x => (lwTabs.map (·.1)).contains x.1) = lwTabs := List.filter_eq_self.2 fun x hx => List.contains_iff_mem.2 (List.mem_map.2 ⟨x, hx, rfl⟩)
  have e2 : (lwTabs.filter fun x => !(lwTabs.map (·.1)).contains x.1) = [] := List.filter_eq_nil_iff.2 fun x hx => by rw [List.contains_iff_mem.2 (List.mem_map.2 ⟨x, hx, rfl⟩)]; simp
  exact laidMet_layVars (w0 := lwBase os) (lwTabs.map (·.1)) [] (by rw [e1]; rfl) (by rw [e1]; exact lwWit_fits os) (by rw [e1]; exact lwWit_ifaces os) (by rw [e2]; exact LaidIn.none)
theorem lwWit_met (os : Os) (args : Array Value) : laidMetH Tryz.prog lwLaid ((lwWit os).forCall (fun _ _ => 0) ⟨#[], args, []⟩).memory :=
  laidMetH_of_parts ((lwWit_tabs os).of_heap (by simp [World.memory, World.forCall, Input.heap])) (by kernel_rfl)
theorem lwWit_shaped (os : Os) : (lwWit os).Shaped Tryz.prog := World.shaped_of_ZipB (by kernel_rfl) (by kernel_rfl)
end Go.Proofs.YtgedpfbokkambaaGreatDoor
end
