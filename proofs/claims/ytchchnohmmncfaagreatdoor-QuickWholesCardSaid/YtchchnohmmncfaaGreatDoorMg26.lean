/- Lemmas of this proof, laid together: SumC, SumB, SumD, SumE, SumF. -/
import Derived.Test.YtchchnohmmncfaaGreatDoorMg25
import Derived.Test.YtchchnohmmncfaaGreatDoorMg13
import Derived.Test.YtchchnohmmncfaaGreatDoorMg11
import Derived.Test.YtchchnohmmncfaaGreatDoorMg14
import Derived.Test.YtchchnohmmncfaaGreatDoorMg08
import Derived.Deep.DeepCutAuto
import Derived.Deep.RegionWith
set_option linter.unusedSimpArgs false
set_option linter.unusedVariables false

