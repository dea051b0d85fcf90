/- Lemmas of this proof, laid together: SumA. -/
import Derived.Test.YtchchnohmmncfaaGreatDoorMg12
import Derived.Test.YtchchnohmmncfaaGreatDoorShelf
import Derived.Lib.Bytealg
set_option linter.unusedSimpArgs false
set_option linter.unusedVariables false

