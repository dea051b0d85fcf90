/- Lemmas of this proof, laid together: DecT, DecU. -/
import Derived.Test.YtchbefambnhjjaaGreatDoorMg12
import Derived.Test.YtchbefambnhjjaaGreatDoorMg14
import Derived.Test.YtchbefambnhjjaaGreatDoorShelf
import Derived.Lib.ItoaNum
set_option linter.unusedSimpArgs false
set_option linter.unusedVariables false

