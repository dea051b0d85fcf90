/- Lemmas of this proof, laid together: DecA, DecB, DecC, DecTw. -/
import Derived.Test.YtchbefambnhjjaaGreatDoorRows
import Derived.Test.YtchbefambnhjjaaGreatDoorMg03
import Derived.Test.YtchbefambnhjjaaGreatDoorMg05
import Derived.Test.YtchbefambnhjjaaGreatDoorMg01
set_option linter.unusedSimpArgs false
set_option linter.unusedVariables false

