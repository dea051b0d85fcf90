/- Lemmas of this proof, laid together: LawX. -/
import Derived.Test.YtnkajjealkggdaaGreatDoorMg38
import Derived.Test.YtnkajjealkggdaaGreatDoorMg35
import Derived.Lay
import Derived.LaidHandle
set_option linter.unusedSimpArgs false
set_option linter.unusedVariables false
section
/- A world in which the rows' listed variables stand: the tables, the sentinels, and the handle of the type 'error'. -/
namespace Go.Proofs.YtnkajjealkggdaaGreatDoor
open Go.ChangeShapes Go.WideShapes Go.ChangeAt Go.RowKit
set_option maxRecDepth 100000
noncomputable def lxBase (os : Os) : World :=
  { World.holding Tryz.prog os ⟨#[], #[], []⟩ with heap := (World.holding Tryz.prog os ⟨#[], #[], []⟩).heap.modify 0 fun
      | .cells _ t frozen => .cells #[.iface 142 (rtyV 35)] t frozen
      | o => o }
noncomputable def lxWit (os : Os) : World := (lxBase os).layVars Tryz.prog lxTabs
theorem lxWit_os (os : Os) : (lxWit os).os = os := by unfold lxWit; rw [World.layVars_os]; rfl
theorem lxWit_fits (os : Os) : (lxBase os).layFits Tryz.prog lxTabs [] = true := by kernel_rfl
theorem lxWit_ifaces (os : Os) : (lxBase os).layIfaces Tryz.prog lxTabs (lxWit os) = true := by kernel_rfl
theorem lxWit_tabs (os : Os) : laidMet Tryz.prog lxTabs (lxWit os) := by
  have e1 : (lxTabs.filter fun x => (lxTabs.map (·.1)).contains x.1) = lxTabs := List.filter_eq_self.2 fun x hx => List.contains_iff_mem.2 (List.mem_map.2 ⟨x, hx, rfl⟩)
  have e2 : (lxTabs.filter fun x => !(lxTabs.map (·.1)).contains x.1) = [] := List.filter_eq_nil_iff.2 fun x hx => by rw [List.contains_iff_mem.2 (List.mem_map.2 ⟨x, hx, rfl⟩)]; simp
  exact laidMet_layVars (w0 := lxBase os) (lxTabs.map (·.1)) [] (by rw [e1]; rfl) (by rw [e1]; exact lxWit_fits os) (by rw [e1]; exact lxWit_ifaces os) (by rw [e2]; exact LaidIn.none)
theorem lxWit_met (os : Os) (args : Array Value) : laidMetH Tryz.prog lxLaid ((lxWit os).forCall (fun _ _ => 0) ⟨#[], args, []⟩).memory :=
  laidMetH_of_parts ((lxWit_tabs os).of_heap (by simp [World.memory, World.forCall, Input.heap])) (by kernel_rfl)
end Go.Proofs.YtnkajjealkggdaaGreatDoor
end
