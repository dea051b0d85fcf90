/- Lemmas of this proof, laid together: SumC, SumB, SumD, SumE, SumF. -/
import Derived.Test.YtkhkoeibpkglkaaGreatDoorMg10
import Derived.Test.YtkhkoeibpkglkaaGreatDoorMg13
import Derived.Test.YtkhkoeibpkglkaaGreatDoorMg08
import Derived.Test.YtkhkoeibpkglkaaGreatDoorMg07
import Derived.Deep.DeepCutAuto
import Derived.Deep.RegionWith
set_option linter.unusedSimpArgs false
set_option linter.unusedVariables false

