/- Lemmas of this proof, laid together: LawS. -/
import Derived.Test.YtnkajjealkggdaaGreatDoorMg37
import Derived.Test.YtnkajjealkggdaaGreatDoorMg06
import Derived.ChangeSlices
set_option linter.unusedSimpArgs false
set_option linter.unusedVariables false

