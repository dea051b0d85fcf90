/- Lemmas of this proof, laid together: AlvT, Alv, Prt, TxP, WorP, WorQ, WorN, WorR, NearA, NearP, ExP, RatO. -/
import Derived.Test.YtchbefambnhjjaaGreatDoorMg14
import Derived.Test.YtchbefambnhjjaaGreatDoorMg08
import Derived.Test.YtchbefambnhjjaaGreatDoorMg15
import Derived.Test.YtchbefambnhjjaaGreatDoorMg16
import Derived.Test.YtchbefambnhjjaaGreatDoorMg05
import Derived.Test.YtchbefambnhjjaaGreatDoorMg22
import Derived.Deep.DeepCutAuto
import Derived.Deep.RegionWith
import Derived.Deep.LoopGhost
import Derived.Test.YtchbefambnhjjaaGreatDoorMg21
import Derived.Test.YtchbefambnhjjaaGreatDoorMg03
import Derived.Test.YtchbefambnhjjaaGreatDoorMg07
set_option linter.unusedSimpArgs false
set_option linter.unusedVariables false
section
namespace Go.Proofs.YtchbefambnhjjaaGreatDoor
end Go.Proofs.YtchbefambnhjjaaGreatDoor
end
section
/- The law's 'alive'. -/
namespace Go.Proofs.YtchbefambnhjjaaGreatDoor
open Go.RowKit
attribute [local go_sem] bs_size bs_extract bs_get bs_append bs_toList const_get
attribute [local go_sem] sz2 sz3 sz4 sz5 sz6 sz7 sz8
set_option maxHeartbeats 4000000
set_option maxRecDepth 100000
attribute [local irreducible] Calls
end Go.Proofs.YtchbefambnhjjaaGreatDoor
end
section
/- DecTexts: a text parted. -/
namespace Go.Proofs.YtchbefambnhjjaaGreatDoor
open Go.RowKit
attribute [local go_sem] bs_size bs_extract bs_get bs_append bs_toList const_get
attribute [local go_sem] sz2 sz3 sz4 sz5 sz6 sz7 sz8
set_option maxHeartbeats 4000000
set_option maxRecDepth 100000
attribute [local irreducible] Calls
end Go.Proofs.YtchbefambnhjjaaGreatDoor
end
section
/- DecTexts: the plain part. -/
namespace Go.Proofs.YtchbefambnhjjaaGreatDoor
set_option maxRecDepth 100000
end Go.Proofs.YtchbefambnhjjaaGreatDoor
end
section
/- What decimals are worth: the plain part. -/
namespace Go.Proofs.YtchbefambnhjjaaGreatDoor
set_option maxRecDepth 100000
/-- How much a decimal's digits are worth in units of ten to the power of F. -/
def mag (d : Dc) (F : Int) : Nat := dval d.dig * 10 ^ (d.exp - F).toNat
def wv (d : Dc) (F : Int) : Int := sgn d.neg (mag d F)
end Go.Proofs.YtchbefambnhjjaaGreatDoor
end
section
/- What decimals are worth: order; what is cut. -/
namespace Go.Proofs.YtchbefambnhjjaaGreatDoor
set_option maxRecDepth 100000
end Go.Proofs.YtchbefambnhjjaaGreatDoor
end
section
/- DecNear: what is cut. -/
namespace Go.Proofs.YtchbefambnhjjaaGreatDoor
set_option maxRecDepth 100000
end Go.Proofs.YtchbefambnhjjaaGreatDoor
end
section
/- DecNear: what is rounded is near. -/
namespace Go.Proofs.YtchbefambnhjjaaGreatDoor
set_option maxRecDepth 100000
end Go.Proofs.YtchbefambnhjjaaGreatDoor
end
section
/- DecNear: near, walked. -/
namespace Go.Proofs.YtchbefambnhjjaaGreatDoor
open Go.RowKit
attribute [local go_sem] bs_size bs_extract bs_get bs_append bs_toList const_get
attribute [local go_sem] sz2 sz3 sz4 sz5 sz6 sz7 sz8
set_option maxHeartbeats 4000000
set_option maxRecDepth 100000
attribute [local irreducible] Calls
end Go.Proofs.YtchbefambnhjjaaGreatDoor
end
section
/- DecNear: the plain law. -/
namespace Go.Proofs.YtchbefambnhjjaaGreatDoor
set_option maxRecDepth 100000
open Go.RowKit
end Go.Proofs.YtchbefambnhjjaaGreatDoor
end
section
/- Decimals as fractions: the plain law of sums, products and order. -/
namespace Go.Proofs.YtchbefambnhjjaaGreatDoor
set_option maxRecDepth 100000
/-- Above and below the line, as a decimal gives it. -/
def dz (d : Dc) : Int := sgn d.neg (dval d.dig * 10 ^ d.exp.toNat : Nat)
end Go.Proofs.YtchbefambnhjjaaGreatDoor
end
section
/- The program's decimals as fractions: exponents from nought on; all. -/
namespace Go.Proofs.YtchbefambnhjjaaGreatDoor
open Go.RowKit
attribute [local go_sem] bs_size bs_extract bs_get bs_append bs_toList const_get
attribute [local go_sem] sz2 sz3 sz4 sz5 sz6 sz7 sz8
set_option maxHeartbeats 4000000
set_option maxRecDepth 100000
attribute [local irreducible] Calls
attribute [local go_sem] D2.Oper.detAt D2.detUpon D2.relUpon
namespace D2
end D2
end Go.Proofs.YtchbefambnhjjaaGreatDoor
end
