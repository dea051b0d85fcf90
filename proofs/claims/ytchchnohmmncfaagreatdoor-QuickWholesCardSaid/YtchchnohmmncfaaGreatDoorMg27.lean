/- Lemmas of this proof, laid together: RatF, RatG, AlvT, Alv, Prt, TxP, WorP, WorQ, WorN, WorR, NearA, NearP, ExP, RatO, RatQ, RatS, RatY, RatV, RatW. -/
import Derived.Test.YtchchnohmmncfaaGreatDoorMg17
import Derived.Test.YtchchnohmmncfaaGreatDoorMg18
import Derived.Test.YtchchnohmmncfaaGreatDoorMg26
import Derived.Test.YtchchnohmmncfaaGreatDoorMg09
import Derived.Deep.DeepCutAuto
import Derived.Deep.RegionWith
import Derived.Deep.LoopGhost
import Derived.Test.YtchchnohmmncfaaGreatDoorMg12
import Derived.Test.YtchchnohmmncfaaGreatDoorMg14
import Derived.Test.YtchchnohmmncfaaGreatDoorMg08
import Derived.Test.YtchchnohmmncfaaGreatDoorMg03
import Derived.Test.YtchchnohmmncfaaGreatDoorMg11
set_option linter.unusedSimpArgs false
set_option linter.unusedVariables false
section
/- The program's decimals as fractions. -/
namespace Go.Proofs.YtchchnohmmncfaaGreatDoor
open Go.RowKit
attribute [local go_sem] bs_size bs_extract bs_get bs_append bs_toList const_get
attribute [local go_sem] sz2 sz3 sz4 sz5 sz6 sz7 sz8
set_option maxHeartbeats 4000000
set_option maxRecDepth 100000
attribute [local irreducible] Calls
theorem ten_len (n : Nat) (hn : n ≤ 16000) : (lim (10 ^ n)).length ≤ 4001 := lim_fits (n := n) (Nat.le_refl _) (by omega) (by omega)
end Go.Proofs.YtchchnohmmncfaaGreatDoor
end
section
/- What decimals are worth: the plain part. -/
namespace Go.Proofs.YtchchnohmmncfaaGreatDoor
set_option maxRecDepth 100000
/-- How much a decimal's digits are worth in units of ten to the power of F. -/
def mag (d : Dc) (F : Int) : Nat := dval d.dig * 10 ^ (d.exp - F).toNat
def wv (d : Dc) (F : Int) : Int := sgn d.neg (mag d F)
theorem dval_head {x : UInt8} {l : List UInt8} (h : digsB (x :: l) = true) : digsB l = true ∧ 48 ≤ x.toNat ∧ x.toNat ≤ 57 := by
  unfold digsB at h
  simp only [List.all_cons, Bool.and_eq_true] at h
  exact ⟨h.2, isD_yes x h.1⟩
theorem mag_top {d : Dc} (h : dcE d = 0) (h0 : d.dig ≠ []) {F : Int} (hF : F ≤ d.exp) : 10 ^ (d.exp + d.dig.length - 1 - F).toNat ≤ mag d F ∧ mag d F < 10 ^ (d.exp + d.dig.length - F).toNat := by
  have hok := dc_ok h (List.length_pos_iff.2 h0)
  have hlt := dval_lt d.dig hok.digs
  have hpos := List.length_pos_iff.2 h0
  constructor
  · have h1 : 10 ^ (d.dig.length - 1) ≤ dval d.dig := by
      have hld := hok.lead
      have hdg := hok.digs
      revert hld hdg hpos
      cases d.dig with
      | nil => intro h; cases h
      | cons x l =>
        intro _ hld hdg
        obtain ⟨-, g2, -⟩ := dval_head hdg
        have g3 : x ≠ 48 := hld x rfl
        have g4 : x.toNat ≠ 48 := fun e => g3 (UInt8.toNat_inj.1 e)
        rw [dval_cons]
        have := Nat.mul_le_mul_right (10 ^ l.length) (show 1 ≤ x.toNat - 48 by omega)
        simp; omega
    unfold mag
    have h2 := Nat.mul_le_mul_right (10 ^ (d.exp - F).toNat) h1
    rw [← Nat.pow_add] at h2
    rwa [show d.dig.length - 1 + (d.exp - F).toNat = (d.exp + d.dig.length - 1 - F).toNat by omega] at h2
  · unfold mag
    have h2 := Nat.mul_lt_mul_of_pos_right hlt (Nat.pow_pos (n := (d.exp - F).toNat) (show 0 < 10 by decide))
    rw [← Nat.pow_add] at h2
    rwa [show d.dig.length + (d.exp - F).toNat = (d.exp + d.dig.length - F).toNat by omega] at h2
end Go.Proofs.YtchchnohmmncfaaGreatDoor
end
section
/- Decimals as fractions: the plain law of sums, products and order. -/
namespace Go.Proofs.YtchchnohmmncfaaGreatDoor
set_option maxRecDepth 100000
/-- Above and below the line, as a decimal gives it. -/
def dz (d : Dc) : Int := sgn d.neg (dval d.dig * 10 ^ d.exp.toNat : Nat)
def dp (d : Dc) : Nat := 10 ^ (-d.exp).toNat
theorem dp_ne (d : Dc) : dp d ≠ 0 := by unfold dp; have := Nat.pow_pos (n := (-d.exp).toNat) (show 0 < 10 by decide); omega
end Go.Proofs.YtchchnohmmncfaaGreatDoor
end
