/- Lemmas of this proof, laid together: NatR, NatS, NatT, NatU, NatW, NatOf. -/
import Derived.Test.YtnkajjealkggdaaGreatDoorRows
import Derived.Test.YtnkajjealkggdaaGreatDoorMg06
import Derived.Test.YtnkajjealkggdaaGreatDoorMg07
import Derived.Laws.Bits64b
import Derived.Laws.Bits64
set_option linter.unusedSimpArgs false
set_option linter.unusedVariables false
section
/- The document's sums of limbs. -/
namespace Go.Proofs.YtnkajjealkggdaaGreatDoor
open Go.RowKit
attribute [local go_sem] sz2 sz3 sz4 sz5 sz6 sz7 sz8
set_option maxHeartbeats 4000000
set_option maxRecDepth 100000
attribute [local irreducible] Calls
theorem lim_le {v k : Nat} (h : v < Bs ^ k) : (lim v).length ≤ k := by
  by_cases h0 : v = 0
  · subst h0; rw [lim_zero]; simp
  · have h1 := (lim_len h0).1
    rcases Nat.lt_or_ge k (lim v).length with h2 | h2
    · have : Bs ^ k ≤ Bs ^ ((lim v).length - 1) := Nat.pow_le_pow_right (by decide) (by omega)
      omega
    · exact h2
end Go.Proofs.YtnkajjealkggdaaGreatDoor
end
section
/- The document's numbers: Check, Of, Add. -/
namespace Go.Proofs.YtnkajjealkggdaaGreatDoor
open Go.RowKit
attribute [local go_sem] sz2 sz3 sz4 sz5 sz6 sz7 sz8
set_option maxHeartbeats 4000000
set_option maxRecDepth 100000
attribute [local irreducible] Calls
abbrev natV (A : Option Addr) (n c : Nat) : Value := .agg #[.slice A n c]
end Go.Proofs.YtnkajjealkggdaaGreatDoor
end
section
/- The document's quotient by a small number. -/
namespace Go.Proofs.YtnkajjealkggdaaGreatDoor
open Go.RowKit
attribute [local go_sem] sz2 sz3 sz4 sz5 sz6 sz7 sz8
set_option maxHeartbeats 4000000
set_option maxRecDepth 100000
attribute [local irreducible] Calls
theorem or_shift (r x : Nat) (hr : r < 4294967296) (hx : x < 4294967296) : bits BinOp.or IntKind.u64 ((r : Int) * 4294967296) (x : Int) = ((r * 4294967296 + x : Nat) : Int) := by
  have h := bits_or_u64_nat (r * 4294967296) x (by omega) (by omega)
  have h2 : r * 4294967296 ||| x = r * 4294967296 + x := by
    have := Nat.shiftLeft_add_eq_or_of_lt (i := 32) (b := x) (by omega) r
    rw [Nat.shiftLeft_eq] at this
    exact this.symm
  rw [h2] at h
  rw [← h]; rfl
end Go.Proofs.YtnkajjealkggdaaGreatDoor
end
section
/- The document's product. -/
namespace Go.Proofs.YtnkajjealkggdaaGreatDoor
open Go.RowKit
attribute [local go_sem] sz2 sz3 sz4 sz5 sz6 sz7 sz8
set_option maxHeartbeats 4000000
set_option maxRecDepth 100000
attribute [local irreducible] Calls
theorem own_drewN {w : World} {base : Nat} {e : TypeId} {size : Nat} {v : Value} {n : Nat} {xs : List Value} (h : w.ownsRow base e size v n xs) (j : Nat) : (w.drewN j).ownsRow base e size v n xs := h
end Go.Proofs.YtnkajjealkggdaaGreatDoor
end
