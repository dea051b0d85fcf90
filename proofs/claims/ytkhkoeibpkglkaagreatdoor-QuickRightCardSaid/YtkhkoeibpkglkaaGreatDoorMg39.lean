/- Lemmas of this proof, laid together: QkR. -/
import Derived.Test.YtkhkoeibpkglkaaGreatDoorMg19
import Derived.Test.YtkhkoeibpkglkaaGreatDoorMg26
import Derived.Test.YtkhkoeibpkglkaaGreatDoorMg18
import Derived.Test.YtkhkoeibpkglkaaGreatDoorMg20
set_option linter.unusedSimpArgs false
set_option linter.unusedVariables false
section
/- QuickRight: the plain law. -/
namespace Go.Proofs.YtkhkoeibpkglkaaGreatDoor
open Go.RowKit
set_option maxRecDepth 100000
theorem right_cross (V P : Nat) (x : Int) : V * 10 ^ (x - P).toNat * 10 ^ (x - (x - P).toNat).toNat * 10 ^ (-x).toNat = V * 10 ^ x.toNat * 10 ^ (-(x - (x - P).toNat)).toNat := by
  rcases Nat.eq_zero_or_pos (x - P).toNat with h | h
  · rw [h]
    simp only [Nat.pow_zero, Nat.mul_one, Int.natCast_zero, Int.sub_zero]
  · have h1 : (-x).toNat = 0 := by omega
    have h2 : (-(x - (x - P).toNat)).toNat = 0 := by omega
    have h3 : x.toNat = (x - P).toNat + (x - (x - P).toNat).toNat := by omega
    rw [h1, h2, Nat.pow_zero, Nat.mul_one, Nat.mul_one, h3, Nat.pow_add, ← Nat.mul_assoc]
theorem right_law (E F P : Nat) (hE : 2 ≤ E) (neg : Bool) (l : List UInt8) (x : Int) (hV : l ≠ [] → 0 < dval l) :
    rdB E F neg (askN ⟨neg, l, x⟩ P) (askX ⟨neg, l, x⟩ P) = bitsS E F 0 (decide (canN (dz ⟨neg, l, x⟩) (dp ⟨neg, l, x⟩) < 0)) neg (canN (dz ⟨neg, l, x⟩) (dp ⟨neg, l, x⟩)).natAbs (canD (dz ⟨neg, l, x⟩) (dp ⟨neg, l, x⟩)) := by
  by_cases hl : l = []
  · subst hl
    have hz : dz ⟨neg, [], x⟩ = 0 := by
      unfold dz
      have e : dval [] * 10 ^ x.toNat = 0 := Nat.zero_mul _
      show sgn neg ((dval [] * 10 ^ x.toNat : Nat)) = 0
      rw [e]
      cases neg <;> rfl
    rw [hz, canN_zero]
    have hn : askN ⟨neg, [], x⟩ P = 0 := if_pos rfl
    rw [hn]
    unfold rdB bitsS
    rw [if_pos rfl, if_pos (show Int.natAbs 0 = 0 from rfl), Nat.add_zero]
  · have hv := hV hl
    have hn : askN ⟨neg, l, x⟩ P = dval l * 10 ^ (x - P).toNat := if_neg hl
    have hx : askX ⟨neg, l, x⟩ P = x - (x - P).toNat := if_neg hl
    rw [hn, hx]
    have hc := right_cross (dval l) P x
    have hz : dz ⟨neg, l, x⟩ = sgn neg (dval l * 10 ^ x.toNat : Nat) := rfl
    have hp : dp ⟨neg, l, x⟩ = 10 ^ (-x).toNat := rfl
    rw [hz, hp]
    have hA : 0 < dval l * 10 ^ x.toNat := Nat.mul_pos hv (Nat.pow_pos (by decide))
    have hq : 0 < 10 ^ (-x).toNat := Nat.pow_pos (by decide)
    have hP1 : 0 < dval l * 10 ^ (x - P).toNat * 10 ^ (x - (x - P).toNat).toNat := Nat.mul_pos (Nat.mul_pos hv (Nat.pow_pos (by decide))) (Nat.pow_pos (by decide))
    have hQ1 : 0 < 10 ^ (-(x - (x - P).toNat)).toNat := Nat.pow_pos (by decide)
    have hN1 : ¬ dval l * 10 ^ (x - P).toNat = 0 := Nat.ne_of_gt (Nat.mul_pos hv (Nat.pow_pos (by decide)))
    unfold rdB
    rw [if_neg hN1]
    generalize dval l * 10 ^ (x - P).toNat * 10 ^ (x - (x - P).toNat).toNat = P1 at *
    generalize 10 ^ (-(x - (x - P).toNat)).toNat = Q1 at *
    generalize dval l * 10 ^ x.toNat = A at *
    generalize 10 ^ (-x).toNat = q at *
    have hg : 0 < Nat.gcd A q := Nat.gcd_pos_of_pos_left _ hA
    obtain ⟨a, ha⟩ := Nat.gcd_dvd_left A q
    obtain ⟨d, hd⟩ := Nat.gcd_dvd_right A q
    have e1 : (canN (sgn neg A) q).natAbs = a := by
      unfold canN
      rw [sgn_abs, sgn_abs]
      refine Nat.div_eq_of_eq_mul_right hg ha
    have e2 : canD (sgn neg A) q = d := by
      unfold canD
      rw [sgn_abs]
      refine Nat.div_eq_of_eq_mul_right hg hd
    have ha0 : 0 < a := Nat.pos_of_ne_zero fun h => by rw [h, Nat.mul_zero] at ha; omega
    have hd0 : 0 < d := Nat.pos_of_ne_zero fun h => by rw [h, Nat.mul_zero] at hd; omega
    have e3 : decide (canN (sgn neg A) q < 0) = neg := by
      have : (canN (sgn neg A) q) = sgn (decide (sgn neg A < 0)) a := by
        unfold canN
        rw [sgn_abs, Nat.div_eq_of_eq_mul_right hg ha]
      rw [this, sgn_lt, sgn_lt, decide_eq_true ha0, decide_eq_true hA, Bool.and_true, Bool.and_true]
    rw [e1, e2, e3]
    unfold bitsS
    rw [if_neg (Nat.ne_of_gt ha0), Nat.add_comm]
    congr 1
    rw [← bits_even (neg := neg) hE hP1 hQ1]
    refine bitsQ_eq hP1 hQ1 ha0 hd0 ?_
    refine Nat.eq_of_mul_eq_mul_right hg ?_
    generalize Nat.gcd A q = g at *
    subst ha hd
    calc P1 * d * g = P1 * (g * d) := by rw [Nat.mul_assoc, Nat.mul_comm d g]
      _ = g * a * Q1 := hc
      _ = a * Q1 * g := by rw [Nat.mul_comm g a, Nat.mul_assoc, Nat.mul_comm g Q1, Nat.mul_assoc]
theorem rdB_lt3 (E F : Nat) (neg : Bool) (n : Nat) (e : Int) : rdB E F neg n e < 2 ^ (E + F + 1) := by
  have h := rdB_lt (E := E) (F := F) (n := n) (e := e)
  have h2 : 2 ^ (E + F + 1) = 2 * 2 ^ (E + F) := by rw [Nat.pow_succ, Nat.mul_comm]
  cases neg with
  | false => omega
  | true => rw [rdB_neg]; omega
theorem right_len {V e n : Nat} (hV : V < 10 ^ n) : (lim (V * 10 ^ e)).length ≤ (4 * (n + e) + 31) / 32 := by
  refine lim_bits ?_
  have h1 : V * 10 ^ e < 2 ^ (4 * (n + e)) := by
    have h2 : V * 10 ^ e < 10 ^ (n + e) := by rw [Nat.pow_add]; exact Nat.mul_lt_mul_of_pos_right hV (Nat.pow_pos (by decide))
    have h3 : 10 ^ (n + e) ≤ (2 ^ 4) ^ (n + e) := Nat.pow_le_pow_left (by decide) _
    rw [← Nat.pow_mul] at h3
    omega
  have := bits_lt h1
  omega
end Go.Proofs.YtkhkoeibpkglkaaGreatDoor
end
