/- Lemmas of this proof, laid together: DecA, DecB, DecC, DecTw. -/
import Derived.Test.YtfdmhefjmnlllaaGreatDoorRows
import Derived.Test.YtfdmhefjmnlllaaGreatDoorMg03
import Derived.Test.YtfdmhefjmnlllaaGreatDoorMg05
import Derived.Test.YtfdmhefjmnlllaaGreatDoorMg01
set_option linter.unusedSimpArgs false
set_option linter.unusedVariables false

