/- Lemmas of this proof, laid together: DecT, DecU. -/
import Derived.Test.YtchbefambnhjjaaGreatDoorMg08
import Derived.Test.YtchbefambnhjjaaGreatDoorMg13
import Derived.Test.YtchbefambnhjjaaGreatDoorShelf
import Derived.Lib.ItoaNum
set_option linter.unusedSimpArgs false
set_option linter.unusedVariables false
section
/- Plain texts: what they come to; the library's texts. -/
namespace Go.Proofs.YtchbefambnhjjaaGreatDoor
open Go.RowKit
attribute [local go_sem] bs_size bs_extract bs_get bs_append bs_toList const_get
attribute [local go_sem] sz2 sz3 sz4 sz5 sz6 sz7 sz8
set_option maxHeartbeats 4000000
set_option maxRecDepth 100000
attribute [local irreducible] Calls
attribute [local go_sem] bs_app_lit lit_app_bs
end Go.Proofs.YtchbefambnhjjaaGreatDoor
end
section
/- Plain texts. -/
namespace Go.Proofs.YtchbefambnhjjaaGreatDoor
open Go.RowKit
attribute [local go_sem] bs_size bs_extract bs_get bs_append bs_toList const_get
attribute [local go_sem] sz2 sz3 sz4 sz5 sz6 sz7 sz8
set_option maxHeartbeats 4000000
set_option maxRecDepth 100000
attribute [local irreducible] Calls
attribute [local go_sem] bs_app_lit lit_app_bs
end Go.Proofs.YtchbefambnhjjaaGreatDoor
end
