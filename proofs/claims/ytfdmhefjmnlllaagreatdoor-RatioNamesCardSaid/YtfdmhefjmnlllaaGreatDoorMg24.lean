/- Lemmas of this proof, laid together: AlvT, Alv, Prt, TxP, WorP, WorQ, WorN, WorR, NearA, NearP, ExP, RatO. -/
import Derived.Test.YtfdmhefjmnlllaaGreatDoorMg15
import Derived.Test.YtfdmhefjmnlllaaGreatDoorMg12
import Derived.Test.YtfdmhefjmnlllaaGreatDoorMg16
import Derived.Test.YtfdmhefjmnlllaaGreatDoorMg17
import Derived.Test.YtfdmhefjmnlllaaGreatDoorMg08
import Derived.Test.YtfdmhefjmnlllaaGreatDoorMg22
import Derived.Deep.DeepCutAuto
import Derived.Deep.RegionWith
import Derived.Deep.LoopGhost
import Derived.Test.YtfdmhefjmnlllaaGreatDoorMg03
import Derived.Test.YtfdmhefjmnlllaaGreatDoorMg11
set_option linter.unusedSimpArgs false
set_option linter.unusedVariables false
section
/- What decimals are worth: the plain part. -/
namespace Go.Proofs.YtfdmhefjmnlllaaGreatDoor
set_option maxRecDepth 100000
def mag (d : Dc) (F : Int) : Nat := dval d.dig * 10 ^ (d.exp - F).toNat
def wv (d : Dc) (F : Int) : Int := sgn d.neg (mag d F)
end Go.Proofs.YtfdmhefjmnlllaaGreatDoor
end
section
/- Decimals as fractions: the plain law of sums, products and order. -/
namespace Go.Proofs.YtfdmhefjmnlllaaGreatDoor
set_option maxRecDepth 100000
def dz (d : Dc) : Int := sgn d.neg (dval d.dig * 10 ^ d.exp.toNat : Nat)
end Go.Proofs.YtfdmhefjmnlllaaGreatDoor
end
