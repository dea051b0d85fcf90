/- Lemmas of this proof, laid together: DecV, DecX. -/
import Derived.Test.YtfdmhefjmnlllaaGreatDoorMg16
import Derived.Lib.LaidTab
import Derived.Sort.Grow
set_option linter.unusedSimpArgs false
set_option linter.unusedVariables false

