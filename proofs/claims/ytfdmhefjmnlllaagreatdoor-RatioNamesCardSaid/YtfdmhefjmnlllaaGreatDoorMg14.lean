/- Lemmas of this proof, laid together: SumA, DecRp. -/
import Derived.Test.YtfdmhefjmnlllaaGreatDoorMg12
import Derived.Test.YtfdmhefjmnlllaaGreatDoorShelf
set_option linter.unusedSimpArgs false
set_option linter.unusedVariables false
section
/- Noughts of the library. -/
namespace Go.Proofs.YtfdmhefjmnlllaaGreatDoor
open Go.RowKit
attribute [local go_sem] bs_size bs_extract bs_get bs_append bs_toList const_get
attribute [local go_sem] sz2 sz3 sz4 sz5 sz6 sz7 sz8
set_option maxHeartbeats 4000000
set_option maxRecDepth 100000
attribute [local irreducible] Calls
theorem bs_app_lit (a : List UInt8) (b : Array UInt8) : bs a ++ (⟨b⟩ : ByteArray) = bs (a ++ b.toList) := by
 rw [← bs_append]; rfl
theorem lit_app_bs (a : Array UInt8) (b : List UInt8) : (⟨a⟩ : ByteArray) ++ bs b = bs (a.toList ++ b) := by
 rw [← bs_append]; rfl
attribute [local go_sem] bs_app_lit lit_app_bs
end Go.Proofs.YtfdmhefjmnlllaaGreatDoor
end
