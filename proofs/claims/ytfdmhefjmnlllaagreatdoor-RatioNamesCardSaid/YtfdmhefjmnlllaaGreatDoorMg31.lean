/- Lemmas of this proof, laid together: Law02. -/
import Derived.Test.YtfdmhefjmnlllaaGreatDoorMg28
import Derived.Test.YtfdmhefjmnlllaaGreatDoorMg30
import Derived.LaidMore
set_option linter.unusedSimpArgs false
set_option linter.unusedVariables false
section
/- The second law: what the walks' ends share. -/
namespace Go.Proofs.YtfdmhefjmnlllaaGreatDoor
open Go.RowKit
set_option maxRecDepth 100000
attribute [local irreducible] Calls
theorem tz_row {l : List (String × DataW Unit)} (w : World) (h : laidMetH Tryz.prog l w) (hp : ∀ w, laidMetH Tryz.prog l w = laidMet Tryz.prog l w) {rest : List (String × DataW Unit)}
  (e : l = ("math/bits.deBruijn32tab", Lib.tabData .u8 tzTab) :: rest) : Tz w := by
 rw [hp, e] at h
 exact tz_met rest w h
end Go.Proofs.YtfdmhefjmnlllaaGreatDoor
end
