/- Lemmas of this proof, laid together: NatY, NtF, NtG, DecO, DecNo, DecL, DecL2, DecS. -/
import Derived.Test.YtchchnohmmncfaaGreatDoorRows
import Derived.Test.YtchchnohmmncfaaGreatDoorMg04
import Derived.Test.YtchchnohmmncfaaGreatDoorMg09
import Derived.Test.YtchchnohmmncfaaGreatDoorMg05
import Derived.Test.YtchchnohmmncfaaGreatDoorMg11
import Derived.Test.YtchchnohmmncfaaGreatDoorMg01
import Derived.Test.YtchchnohmmncfaaGreatDoorMg06
set_option linter.unusedSimpArgs false
set_option linter.unusedVariables false
section
/- The program's quotient by a small number; its text. -/
namespace Go.Proofs.YtchchnohmmncfaaGreatDoor
open Go.RowKit
attribute [local go_sem] bs_size bs_extract bs_get bs_append bs_toList const_get
attribute [local go_sem] sz2 sz3 sz4 sz5 sz6 sz7 sz8
set_option maxHeartbeats 4000000
set_option maxRecDepth 100000
attribute [local irreducible] Calls
theorem dval_cons (b : UInt8) (l : List UInt8) : dval (b :: l) = (b.toNat - 48) * 10 ^ l.length + dval l := by
  have := dval_append [b] l
  rw [show [b] ++ l = b :: l from rfl] at this
  rw [this]
  simp [dval]
end Go.Proofs.YtchchnohmmncfaaGreatDoor
end
section
/- The program writes digits. -/
namespace Go.Proofs.YtchchnohmmncfaaGreatDoor
open Go.RowKit
attribute [local go_sem] bs_size bs_extract bs_get bs_append bs_toList const_get
attribute [local go_sem] sz2 sz3 sz4 sz5 sz6 sz7 sz8
set_option maxHeartbeats 4000000
set_option maxRecDepth 100000
theorem field_nat (A : Option Addr) (k c : Nat) (w : World) : (Instr.field 88 (natV A k c) 0).run Tryz.prog w = .ok (.slice A k c) w := by kernel_rfl
attribute [local irreducible] Calls
attribute [local go_sem] field_nat
end Go.Proofs.YtchchnohmmncfaaGreatDoor
end
section
/- Small pieces: nought; sizes. -/
namespace Go.Proofs.YtchchnohmmncfaaGreatDoor
open Go.RowKit
attribute [local go_sem] bs_size bs_extract bs_get bs_append bs_toList const_get
attribute [local go_sem] sz2 sz3 sz4 sz5 sz6 sz7 sz8
set_option maxHeartbeats 4000000
set_option maxRecDepth 100000
attribute [local irreducible] Calls
theorem big_pow {n k : Nat} (h : n ≤ 4 * k) (hk : k ≠ 0) : 10 ^ n < Bs ^ k := by
  have h1 : 10 ^ n ≤ 10 ^ (4 * k) := Nat.pow_le_pow_right (by decide) h
  have h2 : (10 ^ 4) ^ k < Bs ^ k := Nat.pow_lt_pow_left (by decide) hk
  rw [← Nat.pow_mul] at h2
  exact Nat.lt_of_le_of_lt h1 h2
theorem lim_fits {v n k : Nat} (hv : v ≤ 10 ^ n) (h : n ≤ 4 * k) (hk : k ≠ 0) : (lim v).length ≤ k := lim_le (Nat.lt_of_le_of_lt hv (big_pow h hk))
end Go.Proofs.YtchchnohmmncfaaGreatDoor
end
