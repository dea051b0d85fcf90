/- Lemmas of this proof, laid together: SumB, SumC, SumD, SumE, SumF. -/
import Derived.Test.YtnkajjealkggdaaGreatDoorMg12
import Derived.Deep.DeepCutAuto
import Derived.Deep.RegionWith
import Derived.Test.YtnkajjealkggdaaGreatDoorMg15
import Derived.Test.YtnkajjealkggdaaGreatDoorMg10
import Derived.Test.YtnkajjealkggdaaGreatDoorMg09
set_option linter.unusedSimpArgs false
set_option linter.unusedVariables false

