/- Lemmas of this proof, laid together: NatY, NtF, NtG, DecO, DecNo, DecL, DecL2, DecS. -/
import Derived.Test.YtfdmhefjmnlllaaGreatDoorRows
import Derived.Test.YtfdmhefjmnlllaaGreatDoorMg04
import Derived.Test.YtfdmhefjmnlllaaGreatDoorMg09
import Derived.Test.YtfdmhefjmnlllaaGreatDoorMg05
import Derived.Test.YtfdmhefjmnlllaaGreatDoorMg11
import Derived.Test.YtfdmhefjmnlllaaGreatDoorMg01
import Derived.Test.YtfdmhefjmnlllaaGreatDoorMg06
set_option linter.unusedSimpArgs false
set_option linter.unusedVariables false
section
/- The document writes digits. -/
namespace Go.Proofs.YtfdmhefjmnlllaaGreatDoor
open Go.RowKit
attribute [local go_sem] bs_size bs_extract bs_get bs_append bs_toList const_get
attribute [local go_sem] sz2 sz3 sz4 sz5 sz6 sz7 sz8
set_option maxHeartbeats 4000000
set_option maxRecDepth 100000
theorem digs_lim' {v k : Nat} (h : (lim v).length ≤ k) : (digs v).length ≤ 32 * k := by
 refine digs_len (Nat.lt_of_lt_of_le (lim_lt v) ?_)
 have h1 : Bs ^ (lim v).length ≤ Bs ^ k := Nat.pow_le_pow_right (by decide) h
 have h2 : Bs ^ k ≤ (10 ^ 32) ^ k := Nat.pow_le_pow_left (by decide) _
 rw [← Nat.pow_mul] at h2
 exact Nat.le_trans h1 h2
theorem digs_step10 {v q P r : Nat} {back : List UInt8} (hP : digs v = digs (q * (10 * P) + r) ++ back.reverse) (hpos : 0 < q * (10 * P) + r) :
  digs v = digs (q * P + r / 10) ++ (back ++ [UInt8.ofNat (48 + r % 10)]).reverse := by
 rw [hP, digs_pos (by omega)]
 have e : q * (10 * P) = 10 * (q * P) := Nat.mul_left_comm _ _ _
 rw [e]
 have e1 : (10 * (q * P) + r) / 10 = q * P + r / 10 := by omega
 have e2 : (10 * (q * P) + r) % 10 = r % 10 := by omega
 rw [e1, e2]
 simp
attribute [local irreducible] Calls
end Go.Proofs.YtfdmhefjmnlllaaGreatDoor
end
section
/- The program writes digits. -/
namespace Go.Proofs.YtfdmhefjmnlllaaGreatDoor
open Go.RowKit
attribute [local go_sem] bs_size bs_extract bs_get bs_append bs_toList const_get
attribute [local go_sem] sz2 sz3 sz4 sz5 sz6 sz7 sz8
set_option maxHeartbeats 4000000
set_option maxRecDepth 100000
theorem field_nat (A : Option Addr) (k c : Nat) (w : World) : (Instr.field 24 (natV A k c) 0).run Tryz.prog w = .ok (.slice A k c) w := by kernel_rfl
attribute [local irreducible] Calls
attribute [local go_sem] field_nat
end Go.Proofs.YtfdmhefjmnlllaaGreatDoor
end
section
/- Small pieces: nought; sizes. -/
namespace Go.Proofs.YtfdmhefjmnlllaaGreatDoor
open Go.RowKit
attribute [local go_sem] bs_size bs_extract bs_get bs_append bs_toList const_get
attribute [local go_sem] sz2 sz3 sz4 sz5 sz6 sz7 sz8
set_option maxHeartbeats 4000000
set_option maxRecDepth 100000
attribute [local irreducible] Calls
theorem big_pow {n k : Nat} (h : n ≤ 4 * k) (hk : k ≠ 0) : 10 ^ n < Bs ^ k := by
 have h1 : 10 ^ n ≤ 10 ^ (4 * k) := Nat.pow_le_pow_right (by decide) h
 have h2 : (10 ^ 4) ^ k < Bs ^ k := Nat.pow_lt_pow_left (by decide) hk
 rw [← Nat.pow_mul] at h2
 exact Nat.lt_of_le_of_lt h1 h2
theorem lim_fits {v n k : Nat} (hv : v ≤ 10 ^ n) (h : n ≤ 4 * k) (hk : k ≠ 0) : (lim v).length ≤ k := lim_le (Nat.lt_of_le_of_lt hv (big_pow h hk))
end Go.Proofs.YtfdmhefjmnlllaaGreatDoor
end
section
/- Noughts. -/
namespace Go.Proofs.YtfdmhefjmnlllaaGreatDoor
open Go.RowKit
attribute [local go_sem] bs_size bs_extract bs_get bs_append bs_toList const_get
attribute [local go_sem] sz2 sz3 sz4 sz5 sz6 sz7 sz8
set_option maxHeartbeats 4000000
set_option maxRecDepth 100000
attribute [local irreducible] Calls
def zerosL (n : Nat) : List UInt8 := List.replicate n 48
end Go.Proofs.YtfdmhefjmnlllaaGreatDoor
end
