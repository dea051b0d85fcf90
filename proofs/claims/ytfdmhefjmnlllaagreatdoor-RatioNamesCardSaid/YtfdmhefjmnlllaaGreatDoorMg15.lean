/- Lemmas of this proof, laid together: SumC, SumB, SumD, SumE, SumF. -/
import Derived.Test.YtfdmhefjmnlllaaGreatDoorMg14
import Derived.Test.YtfdmhefjmnlllaaGreatDoorMg13
import Derived.Test.YtfdmhefjmnlllaaGreatDoorMg11
import Derived.Test.YtfdmhefjmnlllaaGreatDoorMg08
import Derived.Deep.DeepCutAuto
import Derived.Deep.RegionWith
set_option linter.unusedSimpArgs false
set_option linter.unusedVariables false
section
/- Sums of decimals: what they come to; the program's Add. -/
namespace Go.Proofs.YtfdmhefjmnlllaaGreatDoor
open Go.RowKit
attribute [local go_sem] bs_size bs_extract bs_get bs_append bs_toList const_get
attribute [local go_sem] sz2 sz3 sz4 sz5 sz6 sz7 sz8
set_option maxHeartbeats 4000000
set_option maxRecDepth 100000
attribute [local irreducible] Calls
theorem pow_big {n k : Nat} (j : Nat) (h1 : n ≤ 8 * j) (h2 : 27 * j ≤ 32 * k) : 10 ^ n ≤ Bs ^ k := by
 have e1 : 10 ^ n ≤ 10 ^ (8 * j) := Nat.pow_le_pow_right (by decide) h1
 have e2 : (10 ^ 8) ^ j ≤ (2 ^ 27) ^ j := Nat.pow_le_pow_left (by decide) j
 have e3 : 2 ^ (27 * j) ≤ 2 ^ (32 * k) := Nat.pow_le_pow_right (by decide) h2
 rw [← Nat.pow_mul] at e2
 rw [← Nat.pow_mul] at e2
 have e4 : (2 ^ 32) ^ k = 2 ^ (32 * k) := (Nat.pow_mul 2 32 k).symm
 have e5 : Bs = 2 ^ 32 := rfl
 rw [e5, e4]
 exact Nat.le_trans e1 (Nat.le_trans e2 e3)
theorem lim_small {v n k : Nat} (j : Nat) (hv : v < 10 ^ n) (h1 : n ≤ 8 * j) (h2 : 27 * j ≤ 32 * k) : (lim v).length ≤ k := lim_le (Nat.lt_of_lt_of_le hv (pow_big j h1 h2))
theorem dval_small {l : List UInt8} (hd : digsB l = true) (hl : l.length ≤ 65536) : (lim (dval l)).length ≤ 6912 := lim_small (n := l.length) 8192 (dval_lt l hd) (by omega) (by decide)
end Go.Proofs.YtfdmhefjmnlllaaGreatDoor
end
