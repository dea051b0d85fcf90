/- Lemmas of this proof, laid together: DecT, DecU. -/
import Derived.Test.YtfdmhefjmnlllaaGreatDoorMg12
import Derived.Test.YtfdmhefjmnlllaaGreatDoorMg14
import Derived.Test.YtfdmhefjmnlllaaGreatDoorShelf
import Derived.Lib.ItoaNum
set_option linter.unusedSimpArgs false
set_option linter.unusedVariables false

